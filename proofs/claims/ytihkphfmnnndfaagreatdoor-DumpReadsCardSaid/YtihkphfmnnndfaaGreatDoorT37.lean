/-
 Part 37 of the proof of Rows.DumpReadsCardSaid: The reference's parser, calls: paths of the loop, printed by sx.py (m22.py).
 The reference's parser, names: the law.
 No conditions.
-/
import Derived.Test.YtihkphfmnnndfaaGreatDoorT36
namespace Go.PanE
open Go.Proofs
noncomputable section
abbrev z11_13(h3:Heap)(B5:Nat)(t:List UInt8)(h2:Heap)(j:Nat):Heap:=pt h3 B5 72 [iv 6,iv 0,iv 0,.string ⟨#[]⟩,iv 0,iv 0,iv 0,iv 0,.string ⟨⟨t⟩⟩,sv h2.nx 0 (j+1) (j+1)]
abbrev z11_14(r:Option Addr)(T k3 E d3 c3 w3:Nat):List Value:=[.slice r T T,iv (k3:Int),iv E,iv ((d3:Int) - 1),iv (c3:Int),iv (w3:Int)]
abbrev z11_1(h3:Heap)(B5:Nat)(t:List UInt8)(h2:Heap)(j p:Nat)(r:Option Addr)(T k3 E d3 c3 w3:Nat):Heap:=pt (z11_13 h3 B5 t h2 j) p 160 (z11_14 r T k3 E d3 c3 w3)
abbrev z11_2(t:List UInt8)(r0:Option Addr)(j:Nat):AObj:=.row 72 [iv 6,iv 0,iv 0,.string ⟨#[]⟩,iv 0,iv 0,iv 0,iv 0,.string ⟨⟨t⟩⟩,.slice r0 j j] 0 false
abbrev z11_15(x:Tk):List Value:=[iv (x.k:Int),iv (x.n:Int),.string ⟨⟨x.t⟩⟩,iv (x.at_:Int)]
abbrev z11_3(h:Heap)(x:Tk)(p:Nat)(r:Option Addr)(T k E d:Nat):Heap:=pt (al (pt (al (al h.fresh 199 (z11_15 x)) 72 z72) p 160 [.slice r T T,iv ((k:Int)+2),iv E,iv (d:Int),iv 0,iv 0]) 72 z72) (h.nx+2) 72 [iv 6,iv 0,iv 0,.string ⟨#[]⟩,iv 0,iv 0,iv 0,iv 0,.string ⟨⟨x.t⟩⟩,.slice none 0 0]
abbrev z11_4(p:Nat)(x:Tk)(h:Heap)(k:Nat):List (Nat×Value):=[(0,pv p 0),(1,.agg #[iv (x.k:Int),iv (x.n:Int),.string ⟨⟨x.t⟩⟩,iv (x.at_:Int)]),(3,pv h.nx 0),(4,pv (h.nx+1) 0),(7,pv h.nx 2),(8,.string ⟨⟨x.t⟩⟩),(9,iv ((⟨⟨x.t⟩⟩:ByteArray).data.toList.length)),(10,.bool false),(14,pv p 0),(15,pv p 0),(16,pv p 1),(17,iv (k:Int)),(18,iv ((k:Int)+2)),(19,pv p 0),(20,pv p 1),(21,pv h.nx 2),(22,.string ⟨⟨x.t⟩⟩),(23,.agg #[iv 6,iv 0,iv 0,.string ⟨#[]⟩,iv 0,iv 0,iv 0,iv 0,.string ⟨⟨x.t⟩⟩,.slice none 0 0]),(5,pv (h.nx+2) 0),(24,pv p 0),(25,.bool false),(6,iv 0)]
abbrev z11_5(r:Option Addr)(T k E d:Nat):AObj:=.row 160 [.slice r T T,iv (k:Int),iv E,iv (d:Int),iv 0,iv 0] 0 false
abbrev z11_6(r:Option Addr)(T k3 E d3 c3 w3:Nat):List Value:=[.slice r T T,iv ((k3:Int)+1),iv E,iv ((d3:Int) - 1),iv (c3:Int),iv (w3:Int)]
abbrev z11_7(p B4 B5 i:Nat):List (Nat×Value):=[(0,pv p 0),(4,pv B4 0),(5,pv B5 0),(6,iv (i:Int))]
abbrev z11_8(r:Option Addr)(T k3 E d3 c3 w3:Nat):AObj:=.row 160 [.slice r T T,iv (k3:Int),iv E,iv (d3:Int),iv (c3:Int),iv (w3:Int)] 0 false
abbrev z11_9(x:Tk):Value:=.agg #[iv 6,iv 0,iv 0,.string ⟨#[]⟩,iv 0,iv 0,iv 0,iv 0,.string ⟨⟨x.t⟩⟩,.slice none 0 0]
abbrev z11_10(t:List UInt8)(h2:Heap)(j:Nat):AObj:=.row 72 [iv 6,iv 0,iv 0,.string ⟨#[]⟩,iv 0,iv 0,iv 0,iv 0,.string ⟨⟨t⟩⟩,sv h2.nx 0 (j+1) (j+1)] 0 false
abbrev z11_11(p:Nat)(x:Tk):List Value:=[pv p 0,.agg #[iv (x.k:Int),iv (x.n:Int),.string ⟨⟨x.t⟩⟩,iv (x.at_:Int)]]
abbrev z11_12(t:List UInt8)(r0:Option Addr)(j:Nat):Value:=.agg #[iv 6,iv 0,iv 0,.string ⟨#[]⟩,iv 0,iv 0,iv 0,iv 0,.string ⟨⟨t⟩⟩,.slice r0 j j]
abbrev z11_16(p:Nat):List Value:=[pv p 0,.string ⟨#[44]⟩]
abbrev z11_17:Code:=sub [1,1,1,1,1,0,1,0,0] (bodyOf Tryz.f241)
abbrev z11_18(d3:Nat):Value:=iv ((d3:Int) - 1)
theorem bk_full(h h1:Heap)(p k T E d i j B4 B5 k3 d3 c3 w3 n:Nat)(r r0:Option Addr)(t:List UInt8)(hp:h.get p=some (z11_5 r T k E d))(g5:h.get B5=some (z11_2 t r0 j))(g4:h.get B4=some (.row 72 z72 0 false))(_hi:i < 400)(_h45:B4 < B5)(_hp4:p < B4)(_h5:B5 < h.nx)(_hd:d < 1000)(gh1_B5:h1.get B5=some (z11_2 t r0 j))(_lB5h1:B5 < h1.nx)(gh1_B4:h1.get B4=some (.row 72 z72 0 false))(_lB4h1:B4 < h1.nx)(gh1_p:h1.get p=some (z11_8 r T k3 E d3 c3 w3))(a0:decide (((i:Int):Int) < 400)=true)(a1:(((i:Int):Int)==10)=true)(a2:RD n 79 [pv p 0] h=some (.tuple #[],h1))(a3:(((c3:Int):Int) !=0)=true):∃ H,Bd n 80 [1,1,1,1,1,0,1,0,0] Tryz.f241 (z11_7 p B4 B5 i) h .ret [(4,pv B4 0)] H∧tw1 h1 h1.wm B4 h1.nx H (H.get B4=some (z11_2 t r0 j)):=
 bdE (kZ h) [yT a0,yT a1,yC a2 (kK (ko gh1_p) (ko gh1_B5) (ko gh1_B4)),.l 0 3 4,yT a3,.g 1 72 0 10,.w 2 72 0 (z11_12 t r0 j),.z 0] [2]
theorem bk_dp(h h1:Heap)(p k T E d i j B4 B5 n:Nat)(r r0:Option Addr)(t:List UInt8)(hp:h.get p=some (z11_5 r T k E d))(g5:h.get B5=some (z11_2 t r0 j))(g4:h.get B4=some (.row 72 z72 0 false))(_hi:i < 400)(_h45:B4 < B5)(_hp4:p < B4)(_h5:B5 < h.nx)(_hd:d < 1000)(gh1_B5:h1.get B5=some (z11_2 t r0 j))(_lB5h1:B5 < h1.nx)(gh1_B4:h1.get B4=some (.row 72 z72 0 false))(_lB4h1:B4 < h1.nx)(a0:decide (((i:Int):Int) < 400)=true)(a1:(((i:Int):Int)==10)=false)(a2:RD n 208 [pv p 0] h=some (.bool false,h1)):∃ H,Bd n 80 [1,1,1,1,1,0,1,0,0] Tryz.f241 (z11_7 p B4 B5 i) h .ret [(4,pv B4 0)] H∧tw1 h1 h1.wm B4 h1.nx H (H.get B4=some (z11_2 t r0 j)):=
 bdE (kI (ko hp)) [yT a0,yF a1,.l 0 3 4,bF,yC a2 (kJ (ko gh1_B5) (ko gh1_B4)),.g 0 72 0 10,.w 1 72 0 (z11_12 t r0 j),.z 0] [1]
theorem bk_on(h h1 h2 h3:Heap)(p k T E d i j B4 B5 k3 d3 c3 w3 n:Nat)(r r0:Option Addr)(t:List UInt8)(y:Hd)(yr:Option Addr)(yn:Nat)(hp:h.get p=some (z11_5 r T k E d))(g5:h.get B5=some (z11_2 t r0 j))(g4:h.get B4=some (.row 72 z72 0 false))(_hi:i < 400)(_h45:B4 < B5)(_hp4:p < B4)(_h5:B5 < h.nx)(_hd:d < 1000)(gh1_B5:h1.get B5=some (z11_2 t r0 j))(gh2_B5:h2.get B5=some (z11_2 t r0 j))(gh3_B5:h3.get B5=some (z11_2 t r0 j))(_lB5h3:B5 < h3.nx)(gh3_p:h3.get p=some (z11_8 r T k3 E d3 c3 w3))(_lph3:p < h3.nx)(_hd3:d3 < 1000)(_hk3:k3 < 1000)(a0:decide (((i:Int):Int) < 400)=true)(a1:(((i:Int):Int)==10)=false)(a2:RD n 208 [pv p 0] h=some (.bool true,h1))(a3:RD n 78 [pv p 0] (reserve 1 h1)=some (ndV y yr yn,h2))(a4:appendA En (pt h2 h1.nx 72 (ndL y yr yn)) #[70,70] (.slice r0 j j) (sv h1.nx 0 1 1)=some (sv h2.nx 0 (j+1) (j+1),h3))(a5:Pu n 152 (z11_16 p) (.bool true) (z11_1 h3 B5 t h2 j p r T k3 E d3 c3 w3)):∃ H,Bd n 80 [1,1,1,1,1,0,1,0,0] Tryz.f241 (z11_7 p B4 B5 i) h .normal [(0,pv p 0),(4,pv B4 0),(5,pv B5 0),(6,iv ((i:Int)+1))] H∧tw2 h3 h3.wm p B5 h3.nx H (H.get p=some (.row 160 (z11_6 r T k3 E d3 c3 w3) 0 false)∧H.get B5=some (z11_10 t h2 j)):=
 ⟨pt (z11_1 h3 B5 t h2 j p r T k3 E d3 c3 w3) p 160 (z11_6 r T k3 E d3 c3 w3),body_of (show gsee En (RD n) 80 5000 z11_17 [.b true,.b false,.v (iv 0),.b false,.e (.bool true) h1,.v (.slice r0 j j),.e (ndV y yr yn) h2,.e (sv h2.nx 0 (j+1) (j+1)) h3,.e undef (z11_13 h3 B5 t h2 j),.v (iv (d3:Int)),.v (z11_18 d3),.e undef (z11_1 h3 B5 t h2 j p r T k3 E d3 c3 w3),.e (.bool true) (z11_1 h3 B5 t h2 j p r T k3 E d3 c3 w3),.v (iv (k3:Int)),.v (iv ((k3:Int)+1)),.e undef (pt (z11_1 h3 B5 t h2 j p r T k3 E d3 c3 w3) p 160 (z11_6 r T k3 E d3 c3 w3)),.v (iv ((i:Int)+1))] (z11_7 p B4 B5 i) h [(0,pv p 0),(4,pv B4 0),(5,pv B5 0),(6,iv ((i:Int)+1))]=
  some ([decide (((i:Int):Int) < 400)=true,
   (((i:Int):Int)==10)=false,
   LD h 3 p 4 (iv 0),
   ((0:Int) !=0)=false,
   RD n 208 [pv p 0] h=some (.bool true,h1),
   LD (reserve 1 h1) 70 B5 9 (.slice r0 j j),
   RD n 78 [pv p 0] (reserve 1 h1)=some (ndV y yr yn,h2),
   appendA En (pt h2 h1.nx 72 (ndL y yr yn)) #[70,70] (.slice r0 j j) (sv h1.nx 0 1 1)=some (sv h2.nx 0 (j+1) (j+1),h3),
   SV h3 70 B5 9 (sv h2.nx 0 (j+1) (j+1)) (z11_13 h3 B5 t h2 j),
   (h1.nx+1:Nat)=h1.nx+1,
   LD (reserve 1 h1) 70 B5 9 (.slice r0 j j),
   LD h2 70 B5 9 (.slice r0 j j),
   LD (z11_13 h3 B5 t h2 j) 3 p 3 (iv (d3:Int)),
   WR ((d3:Int) - 1),
   SV (z11_13 h3 B5 t h2 j) 3 p 3 (z11_18 d3) (z11_1 h3 B5 t h2 j p r T k3 E d3 c3 w3),
   Pu n 152 (z11_16 p) (.bool true) (z11_1 h3 B5 t h2 j p r T k3 E d3 c3 w3),
   LD (z11_1 h3 B5 t h2 j p r T k3 E d3 c3 w3) 3 p 1 (iv (k3:Int)),
   WR ((k3:Int)+1),
   SV (z11_1 h3 B5 t h2 j p r T k3 E d3 c3 w3) 3 p 1 (iv ((k3:Int)+1)) (pt (z11_1 h3 B5 t h2 j p r T k3 E d3 c3 w3) p 160 (z11_6 r T k3 E d3 c3 w3)),
   WR ((i:Int)+1),
   pv p 0=pv p 0,
   pv B4 0=pv B4 0,
   pv B5 0=pv B5 0,
   iv ((i:Int)+1)=iv ((i:Int)+1)],.normal,pt (z11_1 h3 B5 t h2 j p r T k3 E d3 c3 w3) p 160 (z11_6 r T k3 E d3 c3 w3)) by kernel_rfl)
  ⟨a0,a1,ld_cell hp C3 rfl,rfl,a2,ld_cell (gR gh1_B5) C70 rfl,a3,a4,st_row 1 gh3_B5 S70 rfl rfl,rfl,ld_cell (gR gh1_B5) C70 rfl,ld_cell gh2_B5 C70 rfl,ld_cell (gO gh3_p (show B5 < h3.nx by omega) (by omega)) C3 rfl,add_i64 (by omega) (by omega),st_row 1 (gO gh3_p (show B5 < h3.nx by omega) (by omega)) S3 rfl rfl,a5,ld_cell (gP (show p < h3.nx by omega)) C3 rfl,add_i64 (by omega) (by omega),st_row 1 (gP (show p < h3.nx by omega)) S3 rfl rfl,add_i64 (by omega) (by omega),rfl,rfl,rfl,rfl,trivial⟩,fun c hc _n0 _n1=>(Heap.get_put_other _ p _ _ (by exact(show p < h3.nx by omega)) (by omega)).trans ((Heap.get_put_other _ p _ _ (by exact(show p < h3.nx by omega)) (by omega)).trans ((Heap.get_put_other _ B5 _ _ (by exact(show B5 < h3.nx by omega)) (by omega)).trans (rfl))),rfl,(by simp only[al,pt,Heap.wm_alloc,Heap.wm_put,Heap.wm_reserve];omega),(by simp only[al,pt,Heap.wm_alloc,Heap.wm_put,Heap.wm_reserve];omega),(by simp only[al,pt,Heap.wm_alloc,Heap.wm_put,Heap.wm_reserve];omega),(gP (show p < h3.nx by omega)),(gO (gO (gP (show B5 < h3.nx by omega)) (show p < h3.nx by omega) (by omega)) (show p < h3.nx by omega) (by omega))⟩
theorem bk_out(h h1 h2 h3:Heap)(p k T E d i j B4 B5 k3 d3 c3 w3 n:Nat)(r r0:Option Addr)(t:List UInt8)(y:Hd)(yr:Option Addr)(yn:Nat)(hp:h.get p=some (z11_5 r T k E d))(g5:h.get B5=some (z11_2 t r0 j))(g4:h.get B4=some (.row 72 z72 0 false))(_hi:i < 400)(_h45:B4 < B5)(_hp4:p < B4)(_h5:B5 < h.nx)(_hd:d < 1000)(gh1_B5:h1.get B5=some (z11_2 t r0 j))(gh2_B5:h2.get B5=some (z11_2 t r0 j))(gh3_B5:h3.get B5=some (z11_2 t r0 j))(_lB5h3:B5 < h3.nx)(gh3_p:h3.get p=some (z11_8 r T k3 E d3 c3 w3))(_lph3:p < h3.nx)(_hd3:d3 < 1000)(_hk3:k3 < 1000)(a0:decide (((i:Int):Int) < 400)=true)(a1:(((i:Int):Int)==10)=false)(a2:RD n 208 [pv p 0] h=some (.bool true,h1))(a3:RD n 78 [pv p 0] (reserve 1 h1)=some (ndV y yr yn,h2))(a4:appendA En (pt h2 h1.nx 72 (ndL y yr yn)) #[70,70] (.slice r0 j j) (sv h1.nx 0 1 1)=some (sv h2.nx 0 (j+1) (j+1),h3))(a5:Pu n 152 (z11_16 p) (.bool false) (z11_1 h3 B5 t h2 j p r T k3 E d3 c3 w3)):∃ H,Bd n 80 [1,1,1,1,1,0,1,0,0] Tryz.f241 (z11_7 p B4 B5 i) h (.exit 0) [(0,pv p 0),(4,pv B4 0),(5,pv B5 0)] H∧tw2 h3 h3.wm p B5 h3.nx H (H.get p=some (.row 160 (z11_14 r T k3 E d3 c3 w3) 0 false)∧H.get B5=some (z11_10 t h2 j)):=
 ⟨pt (z11_13 h3 B5 t h2 j) p 160 (z11_14 r T k3 E d3 c3 w3),body_of (show gsee En (RD n) 80 5000 z11_17 [.b true,.b false,.v (iv 0),.b false,.e (.bool true) h1,.v (.slice r0 j j),.e (ndV y yr yn) h2,.e (sv h2.nx 0 (j+1) (j+1)) h3,.e undef (z11_13 h3 B5 t h2 j),.v (iv (d3:Int)),.v (z11_18 d3),.e undef (z11_1 h3 B5 t h2 j p r T k3 E d3 c3 w3),.e (.bool false) (z11_1 h3 B5 t h2 j p r T k3 E d3 c3 w3)] (z11_7 p B4 B5 i) h [(0,pv p 0),(4,pv B4 0),(5,pv B5 0)]=
  some ([decide (((i:Int):Int) < 400)=true,
   (((i:Int):Int)==10)=false,
   LD h 3 p 4 (iv 0),
   ((0:Int) !=0)=false,
   RD n 208 [pv p 0] h=some (.bool true,h1),
   LD (reserve 1 h1) 70 B5 9 (.slice r0 j j),
   RD n 78 [pv p 0] (reserve 1 h1)=some (ndV y yr yn,h2),
   appendA En (pt h2 h1.nx 72 (ndL y yr yn)) #[70,70] (.slice r0 j j) (sv h1.nx 0 1 1)=some (sv h2.nx 0 (j+1) (j+1),h3),
   SV h3 70 B5 9 (sv h2.nx 0 (j+1) (j+1)) (z11_13 h3 B5 t h2 j),
   (h1.nx+1:Nat)=h1.nx+1,
   LD (reserve 1 h1) 70 B5 9 (.slice r0 j j),
   LD h2 70 B5 9 (.slice r0 j j),
   LD (z11_13 h3 B5 t h2 j) 3 p 3 (iv (d3:Int)),
   WR ((d3:Int) - 1),
   SV (z11_13 h3 B5 t h2 j) 3 p 3 (z11_18 d3) (z11_1 h3 B5 t h2 j p r T k3 E d3 c3 w3),
   Pu n 152 (z11_16 p) (.bool false) (z11_1 h3 B5 t h2 j p r T k3 E d3 c3 w3),
   pv p 0=pv p 0,
   pv B4 0=pv B4 0,
   pv B5 0=pv B5 0],(.exit 0),pt (z11_13 h3 B5 t h2 j) p 160 (z11_14 r T k3 E d3 c3 w3)) by kernel_rfl)
  ⟨a0,a1,ld_cell hp C3 rfl,rfl,a2,ld_cell (gR gh1_B5) C70 rfl,a3,a4,st_row 1 gh3_B5 S70 rfl rfl,rfl,ld_cell (gR gh1_B5) C70 rfl,ld_cell gh2_B5 C70 rfl,ld_cell (gO gh3_p (show B5 < h3.nx by omega) (by omega)) C3 rfl,add_i64 (by omega) (by omega),st_row 1 (gO gh3_p (show B5 < h3.nx by omega) (by omega)) S3 rfl rfl,a5,rfl,rfl,rfl,trivial⟩,fun c hc _n0 _n1=>(Heap.get_put_other _ p _ _ (by exact(show p < h3.nx by omega)) (by omega)).trans ((Heap.get_put_other _ B5 _ _ (by exact(show B5 < h3.nx by omega)) (by omega)).trans (rfl)),rfl,(by simp only[al,pt,Heap.wm_alloc,Heap.wm_put,Heap.wm_reserve];omega),(by simp only[al,pt,Heap.wm_alloc,Heap.wm_put,Heap.wm_reserve];omega),(by simp only[al,pt,Heap.wm_alloc,Heap.wm_put,Heap.wm_reserve];omega),(gP (show p < h3.nx by omega)),(gO (gP (show B5 < h3.nx by omega)) (show p < h3.nx by omega) (by omega))⟩
theorem qk_ret(h hL:Heap)(p k T E d n:Nat)(r:Option Addr)(x:Tk)(y:Hd)(yr:Option Addr)(yn:Nat)(hp:h.get p=some (z11_5 r T k E d))(_hl:p < h.nx)(_hk:k < 1000)(gL:hL.get (h.nx+1)=some (.row 72 (ndL y yr yn) 0 false))(a0:decide (((⟨⟨x.t⟩⟩:ByteArray).data.toList.length:Int)>8)=false)(a1:Pu n 152 [pv p 0,.string ⟨#[41]⟩] (.bool false) (z11_3 h x p r T k E d))(a2:Lf n 80 [1,1,1,1,1,0,1,0,0] Tryz.f241 (z11_4 p x h k) (z11_3 h x p r T k E d) .ret [(4,pv (h.nx+1) 0)] hL):Fn n 241 (z11_11 p x) h (ndV y yr yn) hL:=
 fnV (kI (ko hp)) [aS 199 (z11_15 x),aS 72 z72,.l 1 9 2,yF a0,.l 0 3 1,yW ((k:Int)+2),.w 0 3 1 (iv ((k:Int)+2)),.l 1 9 2,aS 72 z72,.w 3 72 0 (z11_9 x),yP a1,yS a2 (kI (ko gL)),.r 0 72 10]
theorem qk_ex(h hL h1:Heap)(p k T E d n:Nat)(r:Option Addr)(x:Tk)(y:Hd)(yr:Option Addr)(yn:Nat)(hp:h.get p=some (z11_5 r T k E d))(_hl:p < h.nx)(_hk:k < 1000)(gh1_hnx2:h1.get (h.nx+2)=some (.row 72 (ndL y yr yn) 0 false))(gh1_hnx1:h1.get (h.nx+1)=some (.row 72 z72 0 false))(_lhnx1h1:h.nx+1 < h1.nx)(a0:decide (((⟨⟨x.t⟩⟩:ByteArray).data.toList.length:Int)>8)=false)(a1:Pu n 152 [pv p 0,.string ⟨#[41]⟩] (.bool false) (z11_3 h x p r T k E d))(a2:Lf n 80 [1,1,1,1,1,0,1,0,0] Tryz.f241 (z11_4 p x h k) (z11_3 h x p r T k E d) (.exit 0) [(0,pv p 0),(4,pv (h.nx+1) 0),(5,pv (h.nx+2) 0)] hL)(a3:RD n 233 [pv p 0] hL=some (.tuple #[],h1)):∃ H,Fn n 241 (z11_11 p x) h (ndV y yr yn) H∧tl1 h1 h1.wm (h.nx+1) h1.nx H:=
 exV (kI (ko hp)) [aS 199 (z11_15 x),aS 72 z72,.l 1 9 2,yF a0,.l 0 3 1,yW ((k:Int)+2),.w 0 3 1 (iv ((k:Int)+2)),.l 1 9 2,aS 72 z72,.w 3 72 0 (z11_9 x),yP a1,yS a2 (kZ hL),yC a3 (kJ (ko gh1_hnx2) (ko gh1_hnx1)),.g 0 72 0 10,.w 1 72 0 (ndV y yr yn),.r 1 72 10] []
def gd2_v(r c:Int):Value:=
 bif decide ((r:Int)≥1) then(bif decide ((r:Int)≤1000) then(bif decide ((c:Int)≥1) then(bif decide ((c:Int)≤50) then(.bool true) else
   (.bool false)) else
  (.bool false)) else
  (.bool false)) else
 (.bool false)
theorem gd2_law(r c:Int)(h:Heap)(n:Nat)(hn:1≤n):RD n 21 [.agg #[iv r,iv c]] h=some (gd2_v r c,h):=by
 obtain⟨m,rfl⟩:∃ m,n=m+1:=⟨n - 1,by omega⟩
 cases b0:decide ((r:Int)≥1)
 ·rw[gd2_v,b0]
  exact fpV (kZ h) [aS 29 [iv r,iv c],.l 0 3 0,yF b0,.z 0]
 ·cases b1:decide ((r:Int)≤1000)
  ·rw[gd2_v,b0,b1]
   exact fpV (kZ h) [aS 29 [iv r,iv c],.l 0 3 0,yT b0,.l 0 3 0,yF b1,.z 0]
  ·cases b2:decide ((c:Int)≥1)
   ·rw[gd2_v,b0,b1,b2]
    exact fpV (kZ h) [aS 29 [iv r,iv c],.l 0 3 0,yT b0,.l 0 3 0,yT b1,.l 0 3 1,yF b2,.z 0]
   ·cases b3:decide ((c:Int)≤50)
    ·rw[gd2_v,b0,b1,b2,b3]
     exact fpV (kZ h) [aS 29 [iv r,iv c],.l 0 3 0,yT b0,.l 0 3 0,yT b1,.l 0 3 1,yT b2,.l 0 3 1,yF b3,.z 0]
    ·rw[gd2_v,b0,b1,b2,b3]
     exact fpV (kZ h) [aS 29 [iv r,iv c],.l 0 3 0,yT b0,.l 0 3 0,yT b1,.l 0 3 1,yT b2,.l 0 3 1,yT b3,.z 0]
theorem good2_law(r c:Int)(h:Heap)(n:Nat)(hn:1≤n):RD n 21 [.agg #[iv r,iv c]] h=some (.bool (goodB r c),h):=by
 refine(gd2_law r c h n hn).trans ?_
 unfold gd2_v goodB
 cases decide (r≥1) <;>cases decide (r≤1000) <;>cases decide (c≥1) <;>cases decide (c≤50) <;>rfl
theorem good2{a c:Nat}(h:1≤a∧a≤1000∧1≤c∧c≤50)(g:Heap)(n:Nat)(hn:1≤n):RD n 21 [.agg #[iv (a:Int),iv (c:Int)]] g=some (.bool true,g):=by
 have:=good2_law (a:Int) (c:Int) g n hn
 have e:goodB (a:Int) (c:Int)=true:=by
  unfold goodB
  rw[decide_eq_true (by omega),decide_eq_true (by omega),decide_eq_true (by omega),decide_eq_true (by omega)];rfl
 rw[e] at this
 exact this
end
end Go.PanE
namespace Go.PanE
open Go.Proofs
/-- What the reference's Parse of names makes. -/
def AdrB(m:Int)(A:List UInt8→Option (Nat×Nat))(N0:Nat):Prop:=
 (∀ l a c,A l=some (a,c)→1≤a∧a≤1000∧1≤c∧c≤50)∧
 ∀ (l:List UInt8) (h:Heap) (n:Nat),N0≤n→Gl m h→l.length≤4000→
  match A l with
  |some (a,c)=>RD n 30 [.string ⟨⟨l⟩⟩] h=some (.agg #[iv (a:Int),iv (c:Int),.bool true],h)
  |none=>∃ a c:Int,RD n 30 [.string ⟨⟨l⟩⟩] h=some (.agg #[iv a,iv c,.bool false],h)
theorem made2_law{a c u w:Nat}(h1:1≤a∧a≤1000∧1≤c∧c≤50)(h2:1≤u∧u≤1000∧1≤w∧w≤50)(h:Heap)(n:Nat)(hn:2≤n):
  RD n 242 [.agg #[iv (a:Int),iv (c:Int)],.agg #[iv (u:Int),iv (w:Int)]] h=some (.agg #[iv ((min a u:Nat):Int),iv ((min c w:Nat):Int),iv ((max a u:Nat):Int),iv ((max c w:Nat):Int),.bool true],h):=by
 obtain⟨n,rfl⟩:∃ m,n=m+1:=⟨n - 1,by omega⟩
 refine(made2 h a c u w n (good2 h1 _ n (by omega)) (good2 h2 _ n (by omega)) (minN _ _) (minN _ _) (maxN _ _) (maxN _ _)).trans ?_
 rw[finish_low (by simp only[al,pt,Heap.wm_alloc,Heap.wm_put,Heap.wm_fresh];omega) rfl]
/-- The memories in which name looks. -/
def hA1(h:Heap)(x:Tk):Heap:=al (al h.fresh 199 (tkL x)) 72 z72
theorem hA1_nx(h:Heap)(x:Tk):(hA1 h x).nx=h.nx+2:=rfl
theorem hA1_kp(h:Heap)(x:Tk):Kp h.fresh (hA1 h x):=((Kp.refl h.fresh).al _ _).al _ _
theorem hA1_get(h:Heap)(x:Tk):(hA1 h x).get (h.nx+1)=some (.row 72 z72 0 false):=gN (h:=al h.fresh 199 (tkL x))
def hA2(h:Heap)(x:Tk)(a c:Int)(ok:Bool):Heap:=pt (al (hA1 h x) 78 [iv 0,iv 0,.bool false]) (h.nx+2) 78 [iv a,iv c,.bool ok]
theorem hA2_nx(h:Heap)(x:Tk)(a c:Int)(ok:Bool):(hA2 h x a c ok).nx=h.nx+3:=rfl
theorem hA2_kp(h:Heap)(x:Tk)(a c:Int)(ok:Bool):Kp h.fresh (hA2 h x a c ok):=((hA1_kp h x).al _ _).pt (b:=h.nx+2) _ _ (by show h.nx≤h.nx+2;omega) (by show h.nx+2 < h.nx+3;omega)
theorem hA2_get(h:Heap)(x:Tk)(a c:Int)(ok:Bool):(hA2 h x a c ok).get (h.nx+1)=some (.row 72 z72 0 false):=
 gO (gA (hA1_get h x)) (by show h.nx+2 < h.nx+3;omega) (by omega)
section
variable {m:Int} {p b:Nat} {ts:List Tk} {E:Nat} {A:List UInt8→Option (Nat×Nat)} {N0:Nat}
theorem qname_law{f:PR}{d N:Nat}(hd:d≤40)(hA:AdrB m A N0)(hlen:∀ x∈ts,x.t.length≤4000)(hc:∀ (n:Nat) (h:Heap) (k:Nat) (x:Tk),N≤n→ts[k]? =some x→opens ts k=true→QSt m h p b ts E k d 0 0→∃ v h',RD n 241 [pv p 0,tkV x] h=some (v,h')∧ResQ m h p b ts E d (callP ts E f x k) v h')(hN:N0+4≤N):LawN m p b ts E (N+1) 232 d (fun x=>nameP ts E A f x):=by
 intro n h k x hn hx s
 obtain⟨n,rfl⟩:∃ m,n=m+1:=⟨n - 1,by omega⟩
 have hk:k < ts.length:=(List.getElem?_eq_some_iff.1 hx).1
 have hp:=s.lt
 have hT:=s.tT
 have KA:=hA1_kp h x
 have gA:=hA1_get h x
 have nA:=hA1_nx h x
 have sA:=s.fresh.kp KA
 have eo:=qopens_law sA n (by omega)
 simp only[nameP]
 cases ho:opens ts k with
 |true=>
  rw[ho] at eo
  rw[if_pos rfl]
  obtain⟨v1,h1,e1,F1,w1,wp1,y,r,l,rfl,R1⟩:=hc n _ k x (by omega) hx ho sA
  have n1:=F1.nx
  obtain⟨H,e,g,nx,wm,_⟩:=qn_c h h1 p n x y r l ((F1.get _ (by omega) (by omega)).trans gA) (by omega) eo e1
  exact resq_on (hA1 h x) (lo:=h.nx+1) e s ((KA.fr p).trans F1) g (by omega) (by omega) nx (by omega) R1
 |false=>
  rw[ho] at eo
  rw[if_neg (by decide)]
  by_cases ht:x.t=[84,82,85,69]
  ·have et:=(beqL x.t [84,82,85,69]).trans (decide_eq_true ht)
   rw[if_pos ht]
   obtain⟨H,e,g,nx,wm,wp,w⟩:=qn_t h p k ts.length E d n (tsR b ts) x s.pp hp (by omega) eo et et
   exact resq_leaf (x:=hdVal 1 1 []) (k':=k+1) e s g (by omega) wp w (by omega)
  rw[if_neg ht]
  have et:=(beqL x.t [84,82,85,69]).trans (decide_eq_false ht)
  by_cases hf:x.t=[70,65,76,83,69]
  ·have ef:=(beqL x.t [70,65,76,83,69]).trans (decide_eq_true hf)
   rw[if_pos hf]
   obtain⟨H,e,g,nx,wm,wp,w⟩:=qn_f h p k ts.length E d n (tsR b ts) x s.pp hp (by omega) eo et ef et
   exact resq_leaf (x:=hdVal 1 0 []) (k':=k+1) e s g (by omega) wp w (by omega)
  rw[if_neg hf]
  have ef:=(beqL x.t [70,65,76,83,69]).trans (decide_eq_false hf)
  have hl:=hlen x (List.mem_of_getElem? hx)
  have ha:=hA.2 x.t _ n (by omega) sA.gl hl
  cases hAx:A x.t with
  |none=>
   rw[hAx] at ha
   obtain⟨a,c,ha⟩:=ha
   have K2:=hA2_kp h x a c false
   obtain⟨h1,e1,I1⟩:=qbad_law (s.fresh.kp K2) n (by omega)
   rw[if_pos rfl] at I1
   obtain⟨T1,w1⟩:=I1
   have n1:h1.nx=h.nx+3:=T1.nx
   obtain⟨H,e,g,nx,wm,_⟩:=qn_e h h1 p n x a c ((T1.fr.get _ (by rw[hA2_nx];omega) (by omega)).trans (hA2_get h x a c false)) (by omega) eo et ef ha e1
   exact resq_err (lo:=h.nx+1) e s ((K2.fr p).trans T1.fr) g (by omega) nx (by omega) (by decide) (Nat.le_refl _) (by omega) T1.st
  |some v=>
   obtain⟨a,c⟩:=v
   rw[hAx] at ha
   have ra:=hA.1 _ _ _ hAx
   have K2:=hA2_kp h x a c true
   have s2:=s.fresh.kp K2
   have n2:=hA2_nx h x a c true
   have hp2:p < (hA2 h x a c true).nx:=by omega
   have s3:QSt m (pt (hA2 h x a c true) p 160 [tsV b ts,iv (((k:Nat):Int)+1),iv (E:Int),iv ((d:Nat):Int),iv 0,iv 0]) p b ts E (k+1) d 0 0:=s2.fr (Fr.put _ _ _ hp2) (Heap.get_put_same _ _ _ hp2) (by omega)
   have F3:Fr h.fresh (pt (hA2 h x a c true) p 160 [tsV b ts,iv (((k:Nat):Int)+1),iv (E:Int),iv ((d:Nat):Int),iv 0,iv 0]) p:=(K2.fr p).trans (Fr.put _ _ _ hp2)
   have g3:(pt (hA2 h x a c true) p 160 [tsV b ts,iv (((k:Nat):Int)+1),iv (E:Int),iv ((d:Nat):Int),iv 0,iv 0]).get (h.nx+1)=some (.row 72 z72 0 false):=gO (hA2_get h x a c true) hp2 (by omega)
   have es:=qsign_law s3 [58] n (by omega)
   rw[decide_eq_true rfl,Bool.true_and] at es
   simp only
   cases hs:sg ts [[58]] (k+1) with
   |none=>
    rw[hs] at es
    obtain⟨H,e,g,nx,wm,wp,w⟩:=qn_r h p k ts.length E d n (tsR b ts) x a c s.pp hp (by omega) eo et ef ha es
    exact resq_leaf (x:=hdRef 2 a c 0 0) (k':=k+1) e s g (by omega) wp w (by omega)
   |some sn=>
    rw[hs] at es
    have hk1:=sg_lt ts hs
    have hp3:p < (pt (hA2 h x a c true) p 160 [tsV b ts,iv (((k:Nat):Int)+1),iv (E:Int),iv ((d:Nat):Int),iv 0,iv 0]).nx:=hp2
    have s4:QSt m (pt (pt (hA2 h x a c true) p 160 [tsV b ts,iv (((k:Nat):Int)+1),iv (E:Int),iv ((d:Nat):Int),iv 0,iv 0]) p 160 [tsV b ts,iv ((((k:Nat):Int)+1)+1),iv (E:Int),iv ((d:Nat):Int),iv 0,iv 0]) p b ts E (k+1+1) d 0 0:=s3.fr (Fr.put _ _ _ hp3) (Heap.get_put_same _ _ _ hp3) (by omega)
    have F4:=F3.trans (Fr.put (pt (hA2 h x a c true) p 160 [tsV b ts,iv (((k:Nat):Int)+1),iv (E:Int),iv ((d:Nat):Int),iv 0,iv 0]) p (.row 160 [tsV b ts,iv ((((k:Nat):Int)+1)+1),iv (E:Int),iv ((d:Nat):Int),iv 0,iv 0] 0 false) hp3)
    have g4:(pt (pt (hA2 h x a c true) p 160 [tsV b ts,iv (((k:Nat):Int)+1),iv (E:Int),iv ((d:Nat):Int),iv 0,iv 0]) p 160 [tsV b ts,iv ((((k:Nat):Int)+1)+1),iv (E:Int),iv ((d:Nat):Int),iv 0,iv 0]).get (h.nx+1)=some (.row 72 z72 0 false):=gO g3 hp3 (by omega)
    have bad4:∃ h1,RD n 79 [pv p 0] (pt (pt (hA2 h x a c true) p 160 [tsV b ts,iv (((k:Nat):Int)+1),iv (E:Int),iv ((d:Nat):Int),iv 0,iv 0]) p 160 [tsV b ts,iv ((((k:Nat):Int)+1)+1),iv (E:Int),iv ((d:Nat):Int),iv 0,iv 0])=some (.tuple #[],h1)∧h1.nx=h.nx+3∧h1.wm≤p∧h1.get (h.nx+1)=some (.row 72 z72 0 false)∧Fr h.fresh h1 p∧QSt m h1 p b ts E (k+1+1) d 13 (place ts E (k+1+1)):=by
     obtain⟨h1,e1,I1⟩:=qbad_law s4 n (by omega)
     rw[if_pos rfl] at I1
     obtain⟨T1,w1⟩:=I1
     have n1:h1.nx=h.nx+3:=T1.nx
     exact⟨h1,e1,n1,w1,(T1.fr.get _ (by show h.nx+1 < h.nx+3;omega) (by omega)).trans g4,F4.trans T1.fr,T1.st⟩
    have er:∀ {X:Option (Value×Heap)} {H h1:Heap},X=some (finish h z72V H)→(∀ c,c < h1.nx→c≠h.nx+1→H.get c=h1.get c)→H.nx=h1.nx→H.wm≤h1.wm→h1.wm≤p→Fr h.fresh h1 p→QSt m h1 p b ts E (k+1+1) d 13 (place ts E (k+1+1))→
      ∃ v h',X=some (v,h')∧ResQ m h p b ts E d (failR ts E (k+1+1)) v h':=by
     intro X H h1 e g nx wm w1 F st
     exact resq_err (lo:=h.nx+1) e s F g (by omega) nx (by omega) (by decide) (Nat.le_refl _) (by omega) st
    simp only
    by_cases hk2:k+1+1 < ts.length
    ·obtain⟨y,hy⟩:=s.get hk2
     have hbk:=s.some_b hk2
     have hbl:=Heap.lt_of_get hbk
     have hbp:=s.bp hbk
     have hpk:=s.pp' hk2
     have etv:tsV b ts=sv b 0 ts.length ts.length:=tsV_some hk2
     have e5:decide (((((k:Nat):Int)+1)+1:Int)≥((ts.length:Nat):Int))=false:=decide_eq_false (by omega)
     have hcl:cellP ts A (k+1+1)=if y.k=3∧opens ts (k+1+1)=false then A y.t else none:=by unfold cellP;rw[hy]
     by_cases h3:y.k=3
     ·have n3:(((y.k:Int):Int) !=3)=false:=by rw[h3];rfl
      have eo2:=qopens_law s4 n (by omega)
      cases ho2:opens ts (k+1+1) with
      |true=>
       rw[ho2] at eo2
       obtain⟨h1,e1,n1,w1,g1,F1,st1⟩:=bad4
       rw[etv] at es e1 eo2
       obtain⟨H,e,g,nx,wm,_⟩:=qn_2 h h1 p b k ts.length E d n ts x y a c hpk hbk hy hk2 (by omega) hp hbl hbp g1 (by omega) eo et ef ha es e5 n3 eo2 e1
       rw[hcl,ho2,if_neg (by simp)]
       exact er e g nx wm w1 F1 st1
      |false=>
       rw[ho2] at eo2
       rw[hcl,ho2,if_pos ⟨h3,rfl⟩]
       have hl2:=hlen y (List.mem_of_getElem? hy)
       have ha2:=hA.2 y.t _ n (by omega) (s4.gl.reserve 1) hl2
       have nr:(reserve 1 (pt (pt (hA2 h x a c true) p 160 [tsV b ts,iv (((k:Nat):Int)+1),iv (E:Int),iv ((d:Nat):Int),iv 0,iv 0]) p 160 [tsV b ts,iv ((((k:Nat):Int)+1)+1),iv (E:Int),iv ((d:Nat):Int),iv 0,iv 0])).nx=h.nx+4:=by rw[Heap.nx_reserve];rfl
       cases hAy:A y.t with
       |none=>
        rw[hAy] at ha2
        obtain⟨u,w,ha2⟩:=ha2
        have K5:=(((Kp.refl (pt (pt (hA2 h x a c true) p 160 [tsV b ts,iv (((k:Nat):Int)+1),iv (E:Int),iv ((d:Nat):Int),iv 0,iv 0]) p 160 [tsV b ts,iv ((((k:Nat):Int)+1)+1),iv (E:Int),iv ((d:Nat):Int),iv 0,iv 0])).rs 1).pt (b:=h.nx+3) 78 [iv 0,iv 0,.bool false] (by show h.nx+3≤h.nx+3;omega) (by omega)).pt (b:=h.nx+3) 78 [iv u,iv w,.bool false] (by show h.nx+3≤h.nx+3;omega) (Nat.lt_of_lt_of_eq (by omega) nr.symm)
        obtain⟨h1,e1,I1⟩:=qbad_law (s4.kp K5) n (by omega)
        rw[if_pos rfl] at I1
        obtain⟨T1,w1⟩:=I1
        have n1:h1.nx=h.nx+4:=T1.nx.trans nr
        have F1:=(F4.trans (K5.fr p)).trans T1.fr
        have g1:=(T1.fr.get (h.nx+1) (Nat.lt_of_lt_of_eq (by omega) nr.symm) (by omega)).trans ((K5.get (h.nx+1) (by show h.nx+1 < h.nx+3;omega)).trans g4)
        rw[etv] at es e1 eo2 ha2
        obtain⟨H,e,g,nx,wm,_⟩:=qn_3 h h1 p b k ts.length E d n ts x y a c u w hpk hbk hy hk2 (by omega) hp hbl hbp g1 (by omega) eo et ef ha es e5 n3 eo2 ha2 e1
        exact er e g nx wm w1 F1 T1.st
       |some v2=>
        obtain⟨u,w⟩:=v2
        rw[hAy] at ha2
        have ru:=hA.1 _ _ _ hAy
        rw[etv] at es eo2 ha2
        obtain⟨H,e,g,nx,wm,wp,w'⟩:=qn_g h p b k ts.length E d n ts x y a c u w _ _ _ _ true hpk hbk hy hk2 (by omega) hp hbl hbp eo et ef ha es e5 n3 eo2 ha2 (made2_law ra ru _ n (by omega))
        exact resq_leaf (x:=hdRef 3 ((min a u:Nat):Int) ((min c w:Nat):Int) ((max a u:Nat):Int) ((max c w:Nat):Int)) (k':=k+1+1+1) e s g (by omega) wp (by rw[w',etv];rfl) (by omega)
     ·have n3:(((y.k:Int):Int) !=3)=true:=by
       exact congrArg (! ·) (neK (k:=3) h3)
      obtain⟨h1,e1,n1,w1,g1,F1,st1⟩:=bad4
      rw[etv] at es e1
      obtain⟨H,e,g,nx,wm,_⟩:=qn_1 h h1 p b k ts.length E d n ts x y a c hpk hbk hy hk2 (by omega) hp hbl hbp g1 (by omega) eo et ef ha es e5 n3 e1
      rw[hcl,if_neg (by simp[h3])]
      exact er e g nx wm w1 F1 st1
    ·obtain⟨h1,e1,n1,w1,g1,F1,st1⟩:=bad4
     have hcl:cellP ts A (k+1+1)=none:=by unfold cellP;rw[List.getElem?_eq_none (by omega)]
     obtain⟨H,e,g,nx,wm,_⟩:=qn_0 h h1 p k ts.length E d n (tsR b ts) x a c s.pp hp (by omega) g1 (by omega) eo et ef ha es (decide_eq_true (by omega)) e1
     rw[hcl]
     exact er e g nx wm w1 F1 st1
end
end Go.PanE
