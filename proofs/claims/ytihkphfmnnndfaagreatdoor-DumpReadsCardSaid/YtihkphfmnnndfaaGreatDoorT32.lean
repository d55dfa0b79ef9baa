/-
 Part 32 of the proof of Rows.DumpReadsCardSaid: The parser of the first text, calls: paths printed by sx.py (m14.py).
 The parser of the first text: calls.
 The parser of the first text: the law of calls.
 The parser of the first text: calls, the whole.
 The parser of the first text: names and parts, and its levels. No conditions but what addr.Parse makes of a name.
-/
import Derived.Test.YtihkphfmnnndfaaGreatDoorT31
namespace Go.PanE
open Go.Proofs
noncomputable section
abbrev y11_1(t:List UInt8):List Value:=[iv 6,iv 0,iv 0,.string ⟨#[]⟩,iv 0,iv 0,iv 0,iv 0,.string ⟨⟨t⟩⟩,.slice none 0 0]
abbrev y11_2(t:List UInt8)(ab j:Nat):AObj:=.row 72 [iv 6,iv 0,iv 0,.string ⟨#[]⟩,iv 0,iv 0,iv 0,iv 0,.string ⟨⟨t⟩⟩,sv ab 0 j j] 0 false
abbrev y11_3(p d:Nat)(t:List UInt8)(B6 B8:Nat):List (Nat×Value):=[(0,pv p 0),(1,iv (d:Int)),(2,.string ⟨⟨t⟩⟩),(6,pv B6 0),(8,pv B8 0)]
abbrev y11_4(t:List UInt8)(h1:Heap)(j:Nat):List Value:=[iv 6,iv 0,iv 0,.string ⟨#[]⟩,iv 0,iv 0,iv 0,iv 0,.string ⟨⟨t⟩⟩,sv (h1.nx+2) 0 (j+1) (j+1)]
abbrev y11_5(t:List UInt8)(h1:Heap):List Value:=[iv 6,iv 0,iv 0,.string ⟨#[]⟩,iv 0,iv 0,iv 0,iv 0,.string ⟨⟨t⟩⟩,sv (h1.nx+2) 0 1 1]
abbrev y11_6(h:Heap)(p:Nat)(r:Option Addr)(T k E:Nat):Heap:=al (pt (al h.fresh 72 z72) p 274 [.slice r T T,iv ((k:Int)+2),iv E]) 72 z72
abbrev y11_7:Value:=.tuple #[.string ⟨#[]⟩,.bool false]
abbrev y11_8(h1:Heap)(x:Hd)(xr:Option Addr)(xn:Nat):Heap:=al (pt (al h1 72 z72) h1.nx 72 (ndL x xr xn)) 72 (ndL x xr xn)
abbrev y11_9(p d:Nat):List Value:=[pv p 0,iv ((d:Int)+1)]
abbrev y11_10(r:Option Addr)(T k E:Nat):AObj:=.row 274 [.slice r T T,iv (k:Int),iv E] 0 false
abbrev y11_11(p d:Nat)(t:List UInt8):List Value:=[pv p 0,iv (d:Int),.string ⟨⟨t⟩⟩]
abbrev y11_12(k:Nat):Value:=iv ((k:Int)+2)
abbrev y11_13(p d:Nat)(t:List UInt8)(h:Heap)(k:Nat):List (Nat×Value):=[(0,pv p 0),(1,iv (d:Int)),(2,.string ⟨⟨t⟩⟩),(6,pv h.nx 0),(7,.nilIface),(17,.string ⟨⟨t⟩⟩),(18,iv ((⟨⟨t⟩⟩:ByteArray).data.toList.length)),(19,.bool false),(23,pv p 0),(24,pv p 0),(25,pv p 1),(26,iv (k:Int)),(27,iv ((k:Int)+2)),(28,pv p 0),(29,pv p 1),(30,.string ⟨⟨t⟩⟩),(31,.agg #[iv 6,iv 0,iv 0,.string ⟨#[]⟩,iv 0,iv 0,iv 0,iv 0,.string ⟨⟨t⟩⟩,.slice none 0 0]),(8,pv (h.nx+1) 0),(33,pv p 0),(34,sv (h.nx+2) 0 1 1),(35,.tuple #[.string ⟨#[]⟩,.bool false]),(32,.tuple #[.string ⟨#[]⟩,.bool false]),(36,.string ⟨#[]⟩),(37,.bool false),(9,.string ⟨#[]⟩),(10,.bool false),(38,.bool false)]
abbrev y11_14(t:List UInt8):Value:=.agg #[iv 6,iv 0,iv 0,.string ⟨#[]⟩,iv 0,iv 0,iv 0,iv 0,.string ⟨⟨t⟩⟩,.slice none 0 0]
abbrev y11_15(h:Heap)(p:Nat)(r:Option Addr)(T k E:Nat)(t:List UInt8):Heap:=al (pt (y11_6 h p r T k E) (h.nx+1) 72 (y11_1 t)) 9 [.string ⟨#[41]⟩]
abbrev y11_16(t:List UInt8):AObj:=.row 72 (y11_1 t) 0 false
abbrev y11_17(h2:Heap)(B8:Nat)(t:List UInt8)(h1:Heap):Heap:=al (pt h2 B8 72 (y11_5 t h1)) 9 [.string ⟨#[44]⟩]
abbrev y11_18(h2:Heap)(B8:Nat)(t:List UInt8)(h1:Heap)(j:Nat):Heap:=al (pt h2 B8 72 (y11_4 t h1 j)) 9 [.string ⟨#[44]⟩]
abbrev y11_19(q:Nat):Value:=.tuple #[z72V,.iface 242 (pv q 0)]
theorem cb_e0(h h1:Heap)(p d B6 B8 q n:Nat)(t:List UInt8)(_hd:d < 100)(g8:h.get B8=some (y11_16 t))(g6:h1.get B6=some (.row 72 z72 0 false))(_l6:B6 < h1.nx)(a0:RD n 176 (y11_9 p d) h=some (.tuple #[z72V,.iface 242 (pv q 0)],h1)):∃ H,Bd n 79 [1,1,1,1,1,0,0,0] Tryz.f253 (y11_3 p d t B6 B8) h .ret [(6,pv B6 0),(7,.iface 242 (pv q 0))] H∧tw1 h1 h1.wm B6 (h1.nx+1) H (H.get B6=some (.row 72 z72 0 false)):=
 bdE (kI (ko g8)) [.l 0 70 9,bT,yW ((d:Int)+1),yC a0 (kI (ko g6)),aS 72 z72,.w 1 72 0 (z72V),bT,.w 0 72 0 (z72V),.z 0] [0]
theorem cb_on0(h h1 h2 h3:Heap)(p d B6 B8 n:Nat)(t s:List UInt8)(x:Hd)(xr:Option Addr)(xn:Nat)(_hd:d < 100)(g8:h.get B8=some (y11_16 t))(g81:h1.get B8=some (y11_16 t))(g82:h2.get B8=some (y11_16 t))(_l2:B8 < h2.nx)(_l1:B8 < h1.nx)(a0:RD n 176 (y11_9 p d) h=some (.tuple #[ndV x xr xn,.nilIface],h1))(a1:appendA En (y11_8 h1 x xr xn) #[70,70] (.slice none 0 0) (sv (h1.nx+1) 0 1 1)=some (sv (h1.nx+2) 0 1 1,h2))(a2:RD n 200 [pv p 0,sv h2.nx 0 1 1] (y11_17 h2 B8 t h1)=some (.tuple #[.string ⟨⟨s⟩⟩,.bool true],h3)):Bd n 79 [1,1,1,1,1,0,0,0] Tryz.f253 (y11_3 p d t B6 B8) h .normal (y11_3 p d t B6 B8) h3:=
 bdF (kI (ko g8)) [.l 0 70 9,bT,yW ((d:Int)+1),yC a0 (kI (ko g81)),aS 72 z72,.w 1 72 0 (ndV x xr xn),bF,.l 0 70 9,.g 1 72 0 10,aS 72 (ndL x xr xn),yC a1 (kI (ko g82)),.w 0 70 9 (sv (h1.nx+2) 0 1 1),aS 9 [.string ⟨#[44]⟩],yC a2 (kZ h3),.z 0]
theorem cb_ok0(h h1 h2 h3:Heap)(p d B6 B8 n:Nat)(t s:List UInt8)(x:Hd)(xr:Option Addr)(xn:Nat)(_hd:d < 100)(g8:h.get B8=some (y11_16 t))(g81:h1.get B8=some (y11_16 t))(g82:h2.get B8=some (y11_16 t))(_l2:B8 < h2.nx)(_l1:B8 < h1.nx)(g83:h3.get B8=some (.row 72 (y11_5 t h1) 0 false))(g63:h3.get B6=some (.row 72 z72 0 false))(_l3:B6 < h3.nx)(a0:RD n 176 (y11_9 p d) h=some (.tuple #[ndV x xr xn,.nilIface],h1))(a1:appendA En (y11_8 h1 x xr xn) #[70,70] (.slice none 0 0) (sv (h1.nx+1) 0 1 1)=some (sv (h1.nx+2) 0 1 1,h2))(a2:Pu n 200 [pv p 0,sv h2.nx 0 1 1] y11_7 (y11_17 h2 B8 t h1))(a3:RD n 200 [pv p 0,sv (h2.nx+1) 0 1 1] (al (y11_17 h2 B8 t h1) 9 [.string ⟨#[41]⟩])=some (.tuple #[.string ⟨⟨s⟩⟩,.bool true],h3)):∃ H,Bd n 79 [1,1,1,1,1,0,0,0] Tryz.f253 (y11_3 p d t B6 B8) h .ret [(6,pv B6 0),(7,.nilIface)] H∧tw1 h3 h3.wm B6 h3.nx H (H.get B6=some (.row 72 (y11_5 t h1) 0 false)):=
 bdE (kI (ko g8)) [.l 0 70 9,bT,yW ((d:Int)+1),yC a0 (kI (ko g81)),aS 72 z72,.w 1 72 0 (ndV x xr xn),bF,.l 0 70 9,.g 1 72 0 10,aS 72 (ndL x xr xn),yC a1 (kI (ko g82)),.w 0 70 9 (sv (h1.nx+2) 0 1 1),aS 9 [.string ⟨#[44]⟩],yP a2,aS 9 [.string ⟨#[41]⟩],yC a3 (kI (ko g83)),.g 0 72 0 10,.s (kI (ko g63)),.w 0 72 0 (.agg #[iv 6,iv 0,iv 0,.string ⟨#[]⟩,iv 0,iv 0,iv 0,iv 0,.string ⟨⟨t⟩⟩,sv (h1.nx+2) 0 1 1]),.z 0] [0]
theorem cb_no0(h h1 h2:Heap)(p d B6 B8 n:Nat)(t:List UInt8)(x:Hd)(xr:Option Addr)(xn:Nat)(_hd:d < 100)(g8:h.get B8=some (y11_16 t))(g81:h1.get B8=some (y11_16 t))(g82:h2.get B8=some (y11_16 t))(_l2:B8 < h2.nx)(_l1:B8 < h1.nx)(a0:RD n 176 (y11_9 p d) h=some (.tuple #[ndV x xr xn,.nilIface],h1))(a1:appendA En (y11_8 h1 x xr xn) #[70,70] (.slice none 0 0) (sv (h1.nx+1) 0 1 1)=some (sv (h1.nx+2) 0 1 1,h2))(a2:Pu n 200 [pv p 0,sv h2.nx 0 1 1] y11_7 (y11_17 h2 B8 t h1))(a3:Pu n 200 [pv p 0,sv (h2.nx+1) 0 1 1] y11_7 (al (y11_17 h2 B8 t h1) 9 [.string ⟨#[41]⟩])):∃ H,Bd n 79 [1,1,1,1,1,0,0,0] Tryz.f253 (y11_3 p d t B6 B8) h (.exit 0) [(0,pv p 0),(6,pv B6 0)] H∧tl1 h2 h2.wm B8 (h2.nx+2) H:=
 bdE (kI (ko g8)) [.l 0 70 9,bT,yW ((d:Int)+1),yC a0 (kI (ko g81)),aS 72 z72,.w 1 72 0 (ndV x xr xn),bF,.l 0 70 9,.g 1 72 0 10,aS 72 (ndL x xr xn),yC a1 (kI (ko g82)),.w 0 70 9 (sv (h1.nx+2) 0 1 1),aS 9 [.string ⟨#[44]⟩],yP a2,aS 9 [.string ⟨#[41]⟩],yP a3,.z 0] []
theorem cb_full(h:Heap)(p d B6 B8 ab j n:Nat)(t:List UInt8)(g8:h.get B8=some (y11_2 t ab j))(a0:decide ((j:Int) < 10)=false):Bd n 79 [1,1,1,1,1,0,0,0] Tryz.f253 (y11_3 p d t B6 B8) h (.exit 0) [(0,pv p 0),(6,pv B6 0)] h:=
 bdF (kI (ko g8)) [.l 0 70 9,yF a0,.z 0]
theorem cb_e1(h h1:Heap)(p d B6 B8 ab j q n:Nat)(t:List UInt8)(_hd:d < 100)(g8:h.get B8=some (y11_2 t ab j))(g6:h1.get B6=some (.row 72 z72 0 false))(_l6:B6 < h1.nx)(a0:decide ((j:Int) < 10)=true)(a1:RD n 176 (y11_9 p d) h=some (.tuple #[z72V,.iface 242 (pv q 0)],h1)):∃ H,Bd n 79 [1,1,1,1,1,0,0,0] Tryz.f253 (y11_3 p d t B6 B8) h .ret [(6,pv B6 0),(7,.iface 242 (pv q 0))] H∧tw1 h1 h1.wm B6 (h1.nx+1) H (H.get B6=some (.row 72 z72 0 false)):=
 bdE (kI (ko g8)) [.l 0 70 9,yT a0,yW ((d:Int)+1),yC a1 (kI (ko g6)),aS 72 z72,.w 1 72 0 (z72V),bT,.w 0 72 0 (z72V),.z 0] [0]
theorem cb_on1(h h1 h2 h3:Heap)(p d B6 B8 ab j n:Nat)(t s:List UInt8)(x:Hd)(xr:Option Addr)(xn:Nat)(_hd:d < 100)(g8:h.get B8=some (y11_2 t ab j))(g81:h1.get B8=some (y11_2 t ab j))(g82:h2.get B8=some (y11_2 t ab j))(_l2:B8 < h2.nx)(_l1:B8 < h1.nx)(a0:decide ((j:Int) < 10)=true)(a1:RD n 176 (y11_9 p d) h=some (.tuple #[ndV x xr xn,.nilIface],h1))(a2:appendA En (y11_8 h1 x xr xn) #[70,70] (sv ab 0 j j) (sv (h1.nx+1) 0 1 1)=some (sv (h1.nx+2) 0 (j+1) (j+1),h2))(a3:RD n 200 [pv p 0,sv h2.nx 0 1 1] (y11_18 h2 B8 t h1 j)=some (.tuple #[.string ⟨⟨s⟩⟩,.bool true],h3)):Bd n 79 [1,1,1,1,1,0,0,0] Tryz.f253 (y11_3 p d t B6 B8) h .normal (y11_3 p d t B6 B8) h3:=
 bdF (kI (ko g8)) [.l 0 70 9,yT a0,yW ((d:Int)+1),yC a1 (kI (ko g81)),aS 72 z72,.w 1 72 0 (ndV x xr xn),bF,.l 0 70 9,.g 1 72 0 10,aS 72 (ndL x xr xn),yC a2 (kI (ko g82)),.w 0 70 9 (sv (h1.nx+2) 0 (j+1) (j+1)),aS 9 [.string ⟨#[44]⟩],yC a3 (kZ h3),.z 0]
theorem cb_ok1(h h1 h2 h3:Heap)(p d B6 B8 ab j n:Nat)(t s:List UInt8)(x:Hd)(xr:Option Addr)(xn:Nat)(_hd:d < 100)(g8:h.get B8=some (y11_2 t ab j))(g81:h1.get B8=some (y11_2 t ab j))(g82:h2.get B8=some (y11_2 t ab j))(_l2:B8 < h2.nx)(_l1:B8 < h1.nx)(g83:h3.get B8=some (.row 72 (y11_4 t h1 j) 0 false))(g63:h3.get B6=some (.row 72 z72 0 false))(_l3:B6 < h3.nx)(a0:decide ((j:Int) < 10)=true)(a1:RD n 176 (y11_9 p d) h=some (.tuple #[ndV x xr xn,.nilIface],h1))(a2:appendA En (y11_8 h1 x xr xn) #[70,70] (sv ab 0 j j) (sv (h1.nx+1) 0 1 1)=some (sv (h1.nx+2) 0 (j+1) (j+1),h2))(a3:Pu n 200 [pv p 0,sv h2.nx 0 1 1] y11_7 (y11_18 h2 B8 t h1 j))(a4:RD n 200 [pv p 0,sv (h2.nx+1) 0 1 1] (al (y11_18 h2 B8 t h1 j) 9 [.string ⟨#[41]⟩])=some (.tuple #[.string ⟨⟨s⟩⟩,.bool true],h3)):∃ H,Bd n 79 [1,1,1,1,1,0,0,0] Tryz.f253 (y11_3 p d t B6 B8) h .ret [(6,pv B6 0),(7,.nilIface)] H∧tw1 h3 h3.wm B6 h3.nx H (H.get B6=some (.row 72 (y11_4 t h1 j) 0 false)):=
 bdE (kI (ko g8)) [.l 0 70 9,yT a0,yW ((d:Int)+1),yC a1 (kI (ko g81)),aS 72 z72,.w 1 72 0 (ndV x xr xn),bF,.l 0 70 9,.g 1 72 0 10,aS 72 (ndL x xr xn),yC a2 (kI (ko g82)),.w 0 70 9 (sv (h1.nx+2) 0 (j+1) (j+1)),aS 9 [.string ⟨#[44]⟩],yP a3,aS 9 [.string ⟨#[41]⟩],yC a4 (kI (ko g83)),.g 0 72 0 10,.s (kI (ko g63)),.w 0 72 0 (.agg #[iv 6,iv 0,iv 0,.string ⟨#[]⟩,iv 0,iv 0,iv 0,iv 0,.string ⟨⟨t⟩⟩,sv (h1.nx+2) 0 (j+1) (j+1)]),.z 0] [0]
theorem cb_no1(h h1 h2:Heap)(p d B6 B8 ab j n:Nat)(t:List UInt8)(x:Hd)(xr:Option Addr)(xn:Nat)(_hd:d < 100)(g8:h.get B8=some (y11_2 t ab j))(g81:h1.get B8=some (y11_2 t ab j))(g82:h2.get B8=some (y11_2 t ab j))(_l2:B8 < h2.nx)(_l1:B8 < h1.nx)(a0:decide ((j:Int) < 10)=true)(a1:RD n 176 (y11_9 p d) h=some (.tuple #[ndV x xr xn,.nilIface],h1))(a2:appendA En (y11_8 h1 x xr xn) #[70,70] (sv ab 0 j j) (sv (h1.nx+1) 0 1 1)=some (sv (h1.nx+2) 0 (j+1) (j+1),h2))(a3:Pu n 200 [pv p 0,sv h2.nx 0 1 1] y11_7 (y11_18 h2 B8 t h1 j))(a4:Pu n 200 [pv p 0,sv (h2.nx+1) 0 1 1] y11_7 (al (y11_18 h2 B8 t h1 j) 9 [.string ⟨#[41]⟩])):∃ H,Bd n 79 [1,1,1,1,1,0,0,0] Tryz.f253 (y11_3 p d t B6 B8) h (.exit 0) [(0,pv p 0),(6,pv B6 0)] H∧tl1 h2 h2.wm B8 (h2.nx+2) H:=
 bdE (kI (ko g8)) [.l 0 70 9,yT a0,yW ((d:Int)+1),yC a1 (kI (ko g81)),aS 72 z72,.w 1 72 0 (ndV x xr xn),bF,.l 0 70 9,.g 1 72 0 10,aS 72 (ndL x xr xn),yC a2 (kI (ko g82)),.w 0 70 9 (sv (h1.nx+2) 0 (j+1) (j+1)),aS 9 [.string ⟨#[44]⟩],yP a3,aS 9 [.string ⟨#[41]⟩],yP a4,.z 0] []
theorem ca_long(h h1:Heap)(p d q n:Nat)(t:ByteArray)(g1:h1.get h.nx=some (.row 72 z72 0 false))(_l1:h.nx < h1.nx)(a0:decide ((t.data.toList.length:Int)>8)=true)(a1:RD n 177 [pv p 0] (al h.fresh 72 z72)=some (.iface 242 (pv q 0),h1)):∃ H,Fn n 253 [pv p 0,iv (d:Int),.string t] h (y11_19 q) H∧tl1 h1 h1.wm h.nx h1.nx H:=
 exT (kZ h) [aS 72 z72,yT a0,yC a1 (kI (ko g1)),.w 0 72 0 (z72V),.r 0 72 10,.z 1] []
theorem ca_nil(h h1:Heap)(p d k T E n:Nat)(r:Option Addr)(t s:List UInt8)(hp:h.get p=some (y11_10 r T k E))(_h1:k < 1000)(_hl:p < h.nx)(g1:h1.get h.nx=some (.row 72 z72 0 false))(_l1:h.nx < h1.nx)(g8:h1.get (h.nx+1)=some (y11_16 t))(a0:decide (((⟨⟨t⟩⟩:ByteArray).data.toList.length:Int)>8)=false)(a1:RD n 200 [pv p 0,sv (h.nx+2) 0 1 1] (y11_15 h p r T k E t)=some (.tuple #[.string ⟨⟨s⟩⟩,.bool true],h1)):∃ H,Fn n 253 (y11_11 p d t) h (.tuple #[.agg #[iv 6,iv 0,iv 0,.string ⟨#[]⟩,iv 0,iv 0,iv 0,iv 0,.string ⟨⟨t⟩⟩,.slice none 0 0],.nilIface]) H∧tw1 h1 h1.wm h.nx h1.nx H (H.get h.nx=some (y11_16 t)):=
 exT (kI (ko hp)) [aS 72 z72,yF a0,.l 0 3 1,yW ((k:Int)+2),.w 0 3 1 (y11_12 k),aS 72 z72,.w 2 72 0 (y11_14 t),aS 9 [.string ⟨#[41]⟩],yC a1 (kJ (ko g8) (ko g1)),.g 0 72 0 10,.w 1 72 0 (y11_14 t),.r 1 72 10,.z 1] [1]
theorem ca_ret(h hL:Heap)(p d k T E n:Nat)(r:Option Addr)(t:List UInt8)(x:Hd)(xr:Option Addr)(xn:Nat)(hp:h.get p=some (y11_10 r T k E))(_h1:k < 1000)(_hl:p < h.nx)(gL:hL.get h.nx=some (.row 72 (ndL x xr xn) 0 false))(a0:decide (((⟨⟨t⟩⟩:ByteArray).data.toList.length:Int)>8)=false)(a1:Pu n 200 [pv p 0,sv (h.nx+2) 0 1 1] y11_7 (y11_15 h p r T k E t))(a2:Lf n 79 [1,1,1,1,1,0,0,0] Tryz.f253 (y11_13 p d t h k) (y11_15 h p r T k E t) .ret [(6,pv h.nx 0),(7,.nilIface)] hL):Fn n 253 (y11_11 p d t) h (.tuple #[ndV x xr xn,.nilIface]) hL:=
 fnT (kI (ko hp)) [aS 72 z72,yF a0,.l 0 3 1,yW ((k:Int)+2),.w 0 3 1 (y11_12 k),aS 72 z72,.w 2 72 0 (y11_14 t),aS 9 [.string ⟨#[41]⟩],yP a1,yS a2 (kI (ko gL)),.r 0 72 10,.z 1]
theorem ca_re(h hL:Heap)(p d k T E q n:Nat)(r:Option Addr)(t:List UInt8)(hp:h.get p=some (y11_10 r T k E))(_h1:k < 1000)(_hl:p < h.nx)(gL:hL.get h.nx=some (.row 72 z72 0 false))(a0:decide (((⟨⟨t⟩⟩:ByteArray).data.toList.length:Int)>8)=false)(a1:Pu n 200 [pv p 0,sv (h.nx+2) 0 1 1] y11_7 (y11_15 h p r T k E t))(a2:Lf n 79 [1,1,1,1,1,0,0,0] Tryz.f253 (y11_13 p d t h k) (y11_15 h p r T k E t) .ret [(6,pv h.nx 0),(7,.iface 242 (pv q 0))] hL):Fn n 253 (y11_11 p d t) h (y11_19 q) hL:=
 fnT (kI (ko hp)) [aS 72 z72,yF a0,.l 0 3 1,yW ((k:Int)+2),.w 0 3 1 (y11_12 k),aS 72 z72,.w 2 72 0 (y11_14 t),aS 9 [.string ⟨#[41]⟩],yP a1,yS a2 (kI (ko gL)),.r 0 72 10,.z 1]
theorem ca_ex(h h1 hL:Heap)(p d k T E q n:Nat)(r:Option Addr)(t:List UInt8)(hp:h.get p=some (y11_10 r T k E))(_h1:k < 1000)(_hl:p < h.nx)(g1:h1.get h.nx=some (.row 72 z72 0 false))(_l1:h.nx < h1.nx)(a0:decide (((⟨⟨t⟩⟩:ByteArray).data.toList.length:Int)>8)=false)(a1:Pu n 200 [pv p 0,sv (h.nx+2) 0 1 1] y11_7 (y11_15 h p r T k E t))(a2:Lf n 79 [1,1,1,1,1,0,0,0] Tryz.f253 (y11_13 p d t h k) (y11_15 h p r T k E t) (.exit 0) [(0,pv p 0),(6,pv h.nx 0)] hL)(a3:RD n 177 [pv p 0] hL=some (.iface 242 (pv q 0),h1)):∃ H,Fn n 253 (y11_11 p d t) h (y11_19 q) H∧tl1 h1 h1.wm h.nx h1.nx H:=
 exT (kI (ko hp)) [aS 72 z72,yF a0,.l 0 3 1,yW ((k:Int)+2),.w 0 3 1 (y11_12 k),aS 72 z72,.w 2 72 0 (y11_14 t),aS 9 [.string ⟨#[41]⟩],yP a1,yS a2 (kZ hL),yC a3 (kI (ko g1)),.w 0 72 0 (z72V),.r 0 72 10,.z 1] []
end
end Go.PanE
namespace Go.PanE
open Go.Proofs
/-- A call's arguments so far. -/
def ArgS(h:Heap)(nm:List UInt8)(lo B8 ab:Nat)(acc:List Tr):Prop:=
 (acc=[]∧h.get B8=some (.row 72 (ndL (hdOp 6 nm) none 0) 0 false))∨
 (acc≠[]∧∃ cs,h.get B8=some (.row 72 (ndL (hdOp 6 nm) (some ⟨ab,0,none⟩) acc.length) 0 false)∧lo≤ab∧h.get ab=some (.row 72 cs 10 false)∧ArgsC h (fun c=>lo≤c∧c≠ab) cs acc)
def argV(ab:Nat):List Tr→Value
 |[]=>.slice none 0 0
 |t::l=>sv ab 0 (t::l).length (t::l).length
theorem arg_append{h1:Heap}{nm:List UInt8}{lo B8 ab:Nat}{acc:List Tr}(S:ArgS h1 nm lo B8 ab acc){x:Hd}{r:Option Addr}{n:Nat}{t:Tr}(N:NodeC h1 (fun c=>lo≤c∧(acc≠[]→c≠ab)) x r n t)(hlo:lo≤h1.nx)(hl:acc.length≤100):
  ∃ h2 cs',appendA En (al (pt (al h1 72 z72) h1.nx 72 (ndL x r n)) 72 (ndL x r n)) #[70,70] (argV ab acc) (sv (h1.nx+1) 0 1 1)=some (sv (h1.nx+2) 0 (acc.length+1) (acc.length+1),h2)∧
   (∀ c,c < h1.nx→(acc≠[]→c≠ab)→h2.get c=h1.get c)∧h2.nx=h1.nx+3∧h2.wm≤h1.wm∧h2.get (h1.nx+2)=some (.row 72 cs' 10 false)∧ArgsC h2 (fun c=>lo≤c∧c≠h1.nx+2) cs' (acc++[t]):=by
 have KG:Kp h1 (al (pt (al h1 72 z72) h1.nx 72 (ndL x r n)) 72 (ndL x r n)):=(((Kp.refl h1).al _ _).pt _ _ (Nat.le_refl _) (Nat.lt_succ_self _)).al _ _
 have gG:(al (pt (al h1 72 z72) h1.nx 72 (ndL x r n)) 72 (ndL x r n)).get (h1.nx+1)=some (.row 72 (ndL x r n) 0 false):=gN (h:=pt (al h1 72 z72) h1.nx 72 (ndL x r n))
 have nG:(al (pt (al h1 72 z72) h1.nx 72 (ndL x r n)) 72 (ndL x r n)).nx=h1.nx+2:=rfl
 generalize hG:al (pt (al h1 72 z72) h1.nx 72 (ndL x r n)) 72 (ndL x r n)=G at KG gG nG ⊢
 cases acc with
 |nil=>
  have ap:=append_nil (c:=1) slT70 gG (o:=0) (n:=1) (xs:=ndL x r n) rfl rfl (by decide) (by decide)
  have g2:(G.alloc (.row 72 (ndL x r n) 10 false)).get (h1.nx+2)=some (.row 72 (ndL x r n) 10 false):=by rw[← nG];exact Heap.get_new G _
  refine⟨G.alloc (.row 72 (ndL x r n) 10 false),ndL x r n,by rw[← nG];exact ap,fun c hc _=>(Heap.get_old _ _ (by omega)).trans (KG.get c hc),by rw[Heap.nx_alloc,nG],KG.wm,g2,?_⟩
  show ArgsC _ _ _ [t]
  unfold ArgsC
  refine⟨x,r,n,[],by rw[List.append_nil],N.mono fun c o hc e=>⟨⟨hc.1,by have:=Heap.lt_of_get e;omega⟩,(Heap.get_old _ _ (by have:=Heap.lt_of_get e;omega)).trans ((KG.get c (Heap.lt_of_get e)).trans e)⟩,?_⟩
  unfold ArgsC;rfl
 |cons u l=>
  rcases S with⟨S,_⟩|⟨_,cs,S1,S2,S3,S4⟩
  ·cases S
  have hab:=Heap.lt_of_get S3
  have ap:=append_open (c:=1) (l:=(u::l).length) slT70 ((KG.get ab hab).trans S3) (by rw[S4.length]) gG (o:=0) (n:=1) (xs:=ndL x r n) rfl rfl rfl (by decide) (by omega)
  have nk:(G.kill ab).nx=h1.nx+2:=by rw[Heap.nx_kill,nG]
  have g2:((G.kill ab).alloc (.row 72 (cs++ndL x r n) 10 false)).get (h1.nx+2)=some (.row 72 (cs++ndL x r n) 10 false):=by rw[← nk];exact Heap.get_new _ _
  have gk:∀ c,c < h1.nx→c≠ab→((G.kill ab).alloc (.row 72 (cs++ndL x r n) 10 false)).get c=h1.get c:=fun c hc hn=>(Heap.get_old _ _ (by omega)).trans ((Heap.get_kill_other _ hn).trans (KG.get c hc))
  refine⟨(G.kill ab).alloc (.row 72 (cs++ndL x r n) 10 false),cs++ndL x r n,by rw[← nG];exact ap,fun c hc hn=>gk c hc (hn (by simp)),by rw[Heap.nx_alloc,nk],?_,g2,?_⟩
  ·rw[Heap.wm_alloc,Heap.wm_kill];have:=KG.wm;omega
  ·refine ArgsC.snoc (N.mono fun c o hc e=>⟨⟨hc.1,by have:=Heap.lt_of_get e;omega⟩,(gk c (Heap.lt_of_get e) (hc.2 (by simp))).trans e⟩) (S4.mono fun c o hc e=>⟨⟨hc.1,by have:=Heap.lt_of_get e;omega⟩,(gk c (Heap.lt_of_get e) hc.2).trans e⟩)
end Go.PanE
namespace Go.PanE
open Go.Proofs
theorem ArgS.fr{h g:Heap}{nm:List UInt8}{lo B8 ab p:Nat}{acc:List Tr}(S:ArgS h nm lo B8 ab acc)(F:Fr h g p)(h8:B8≠p)(hp:p < lo):ArgS g nm lo B8 ab acc:=by
 rcases S with⟨e,S1⟩|⟨e,cs,S1,S2,S3,S4⟩
 ·exact .inl ⟨e,(F.get _ (Heap.lt_of_get S1) h8).trans S1⟩
 ·exact .inr ⟨e,cs,(F.get _ (Heap.lt_of_get S1) h8).trans S1,S2,(F.get _ (Heap.lt_of_get S3) (by omega)).trans S3,S4.mono fun c o hc e=>⟨hc,(F.get c (Heap.lt_of_get e) (by omega)).trans e⟩⟩
/-- The slots of call's loop. -/
abbrev CS(p d B6 B8:Nat)(nm:List UInt8):List (Nat×Value):=[(0,pv p 0),(1,iv ((d:Nat):Int)),(2,.string ⟨⟨nm⟩⟩),(6,pv B6 0),(8,pv B8 0)]
abbrev CL(n:Nat):=Loops En (RD n) 79 5000 (sub [1,1,1,1,1,0,0,0] (bodyOf Tryz.f253))
section
variable {m:Int} {p b:Nat} {ts:List Tk} {E:Nat}
theorem ca_loop{f:PR}{d N:Nat}(hd:d≤40)(hf:LawA m p b ts E N 176 (d+1) f)(hN:3≤N)(n:Nat)(hn:N≤n)(nm:List UInt8)(B6 B8 lo:Nat)(h68:B6 < B8)(hlo:B8 < lo)(hpB:p < B6):
  ∀ (i k:Nat) (acc:List Tr) (ab:Nat) (h:Heap),i+acc.length=10→lo≤h.nx→PSt m h p b ts E k→ArgS h nm lo B8 ab acc→h.get B6=some (.row 72 z72 0 false)→
   ∃ hL R,R≤i+1∧h.nx≤hL.nx∧(∀ c,c < B6→c≠p→hL.get c=h.get c)∧hL.wm≤h.wm∧
    match argsF ts E f nm i acc k with
    | .ok t k'=>∃ x r l,CL n (CS p d B6 B8 nm) h .ret [(6,pv B6 0),(7,.nilIface)] hL R∧hL.get B6=some (.row 72 (ndL x r l) 0 false)∧NodeC hL (fun c=>lo≤c) x r l t∧PSt m hL p b ts E k'
    | .err pos c=>(∃ q k',CL n (CS p d B6 B8 nm) h .ret [(6,pv B6 0),(7,.iface 242 (pv q 0))] hL R∧hL.get B6=some (.row 72 z72 0 false)∧lo≤q∧hL.get q=some (.row 245 [.int .i64 (pos:Int),.int .i64 (c:Int)] 0 false)∧PSt m hL p b ts E k')∨
      (∃ k',CL n (CS p d B6 B8 nm) h (.exit 0) [(0,pv p 0),(6,pv B6 0)] hL R∧hL.get B6=some (.row 72 z72 0 false)∧pos=place ts E k'∧c=13∧PSt m hL p b ts E k'):=by
 intro i
 induction i with
 |zero=>
  intro k acc ab h hi hnx s S g6
  rcases S with⟨e,S1⟩|⟨e,cs,S1,S2,S3,S4⟩
  ·subst e;simp at hi
  rw[show argsF ts E f nm 0 acc k=Res.err (place ts E k) 13 from rfl]
  refine⟨h,1,by omega,Nat.le_refl _,fun _ _ _=>rfl,Nat.le_refl _,.inr ⟨k,.out (cb_full h p d B6 B8 ab acc.length n nm S1 (lt_dec' (b:=10) (by omega))),g6,rfl,rfl,s⟩⟩
 |succ i ih=>
  intro k acc ab h hi hnx s S g6
  have h6:=s.p6
  have hacc:acc.length≤9:=by omega
  have h8p:B8≠p:=by omega
  obtain⟨v1,h1,e1,F1,w1,R1⟩:=hf n h k hn s
  have S1:=S.fr F1 h8p (by omega)
  have l1:=F1.nx
  have h6l:=Heap.lt_of_get g6
  have g61:=(F1.get B6 h6l (by omega)).trans g6
  have h8l:B8 < h.nx:=by omega
  have hdec:decide (((acc.length:Nat):Int) < 10)=true:=lt_dec (b:=10) (by omega)
  simp only[argsF]
  cases hu:f k with
  |err pos c=>
   rw[hu] at R1
   obtain⟨q,k',rfl,hq,gq,s1⟩:=R1
   have hb:∃ H,BodyTo En (RD n) 79 5000 (sub [1,1,1,1,1,0,0,0] (bodyOf Tryz.f253)) (CS p d B6 B8 nm) h .ret [(6,pv B6 0),(7,.iface 242 (pv q 0))] H∧(∀ c,c < h1.nx→c≠B6→H.get c=h1.get c)∧H.nx=h1.nx+1∧H.wm≤h1.wm∧H.wm≤B6∧H.get B6=some (.row 72 z72 0 false):=by
    rcases S with⟨e,S⟩|⟨e,cs,S,_⟩
    ·exact cb_e0 h h1 p d B6 B8 q n nm (by omega) S g61 (by omega) e1
    ·exact cb_e1 h h1 p d B6 B8 ab acc.length q n nm (by omega) S g61 (by omega) hdec e1
   obtain⟨H,eb,g,nx,wm,_,w⟩:=hb
   refine⟨H,1,by omega,by omega,fun c hc hcp=>(g c (by omega) (by omega)).trans (F1.get c (by omega) hcp),by omega,.inl ⟨q,k',.ret eb,w,by omega,(g q (Heap.lt_of_get gq) (by omega)).trans gq,s1.away g (by omega) g61 (by omega)⟩⟩
  |ok t k1=>
   rw[hu] at R1
   obtain⟨x,r,l,rfl,Nx,s1,wp⟩:=R1
   have hN1:NodeC h1 (fun c=>lo≤c∧(acc≠[]→c≠ab)) x r l t:=NodeC.mono (fun c o hc e=>⟨⟨by have:=hc.1;omega,fun hne=>by
    rcases S with⟨e',_⟩|⟨_,cs,_,_,S3,_⟩
    ·exact absurd e' hne
    ·have:=Heap.lt_of_get S3;have:=hc.1;omega⟩,e⟩) Nx
   obtain⟨h2,cs',ap,g2,n2,w2,gb2,A2⟩:=arg_append S1 hN1 (by omega) (by omega)
   have g8s:∃ r0 n0,h.get B8=some (.row 72 (ndL (hdOp 6 nm) r0 n0) 0 false)∧h1.get B8=some (.row 72 (ndL (hdOp 6 nm) r0 n0) 0 false):=by
    rcases S with⟨e,S⟩|⟨e,cs,S,_⟩
    ·exact⟨_,_,S,(F1.get _ h8l h8p).trans S⟩
    ·exact⟨_,_,S,(F1.get _ h8l h8p).trans S⟩
   have hab:acc≠[]→lo≤ab:=fun hne=>by
    rcases S with⟨e',_⟩|⟨_,cs,_,S2,_,_⟩
    ·exact absurd e' hne
    ·exact S2
   have g28:h2.get B8=h1.get B8:=g2 B8 (by omega) (fun hne=>by have:=hab hne;omega)
   have g26:h2.get B6=h1.get B6:=g2 B6 (by omega) (fun hne=>by have:=hab hne;omega)
   have s2:PSt m h2 p b ts E k1:=by
    rcases S1 with⟨e,_⟩|⟨e,cs,_,S2,S3,_⟩
    ·exact s1.keep (by omega) fun c hc=>g2 c hc (fun hne=>absurd e hne)
    ·exact s1.away (fun c hc hn=>g2 c hc fun _=>hn) (by omega) S3 (by omega)
   obtain⟨r0,n0,g80,g81⟩:=g8s
   have s2':PSt m (pt h2 B8 72 (ndL (hdOp 6 nm) (some ⟨h1.nx+2,0,none⟩) (acc.length+1))) p b ts E k1:=s2.away (fun c hc hn=>Heap.get_put_other _ _ _ _ (by omega) hn) (Nat.le_refl _) (g28.trans g81) (by omega)
   have Kc:∀ z,Kp (pt h2 B8 72 (ndL (hdOp 6 nm) (some ⟨h1.nx+2,0,none⟩) (acc.length+1))) (al (pt h2 B8 72 (ndL (hdOp 6 nm) (some ⟨h1.nx+2,0,none⟩) (acc.length+1))) 9 z):=fun z=>(Kp.refl _).al _ _
   have gp8:(pt h2 B8 72 (ndL (hdOp 6 nm) (some ⟨h1.nx+2,0,none⟩) (acc.length+1))).get B8=some (.row 72 (ndL (hdOp 6 nm) (some ⟨h1.nx+2,0,none⟩) (acc.length+1)) 0 false):=gP (by omega)
   have gpo:∀ c,c≠B8→(pt h2 B8 72 (ndL (hdOp 6 nm) (some ⟨h1.nx+2,0,none⟩) (acc.length+1))).get c=h2.get c:=fun c hc=>Heap.get_put_other _ _ _ _ (by omega) hc
   have Fh:∀ c,c < B6→c≠p→(pt h2 B8 72 (ndL (hdOp 6 nm) (some ⟨h1.nx+2,0,none⟩) (acc.length+1))).get c=h.get c:=fun c hc hcp=>(gpo c (by omega)).trans ((g2 c (by omega) (fun hne=>by have:=hab hne;omega)).trans (F1.get c (by omega) hcp))
   have wH:(pt h2 B8 72 (ndL (hdOp 6 nm) (some ⟨h1.nx+2,0,none⟩) (acc.length+1))).wm≤h.wm:=by rw[Heap.wm_put];omega
   have nP:(pt h2 B8 72 (ndL (hdOp 6 nm) (some ⟨h1.nx+2,0,none⟩) (acc.length+1))).nx=h2.nx:=rfl
   generalize hP2:pt h2 B8 72 (ndL (hdOp 6 nm) (some ⟨h1.nx+2,0,none⟩) (acc.length+1))=P2 at s2' Kc gp8 gpo Fh wH nP
   have g6P:P2.get B6=some (.row 72 z72 0 false):=(gpo B6 (by omega)).trans (g26.trans g61)
   have gbP:P2.get (h1.nx+2)=some (.row 72 cs' 10 false):=(gpo _ (by omega)).trans gb2
   have AP:ArgsC P2 (fun c=>lo≤c∧c≠h1.nx+2) cs' (acc++[t]):=A2.mono fun c o hc e=>⟨hc,(gpo c (by omega)).trans e⟩
   have lenA:(acc++[t]).length=acc.length+1:=by rw[List.length_append];rfl
   obtain⟨v2,h3,e3,S3⟩:=sign_law (ops:=[[44]]) (s2'.kp (Kc [.string ⟨#[44]⟩])) n (by omega) (Heap.get_new _ _) (by decide)
   unfold SgTo at S3
   simp only
   cases hs:sg ts [[44]] k1 with
   |some sn=>
    rw[hs] at S3
    obtain⟨rfl,F3,n3,s3,w3,_⟩:=S3
    have F23:Fr P2 h3 p:=((Kc [.string ⟨#[44]⟩]).fr p).trans F3
    have l3:=F23.nx
    have hb:BodyTo En (RD n) 79 5000 (sub [1,1,1,1,1,0,0,0] (bodyOf Tryz.f253)) (CS p d B6 B8 nm) h .normal (CS p d B6 B8 nm) h3:=by
     subst hP2
     rcases S with⟨e,S⟩|⟨e,cs,S,_⟩
     ·subst e
      have S8:=(F1.get _ h8l h8p).trans S
      exact cb_on0 h h1 h2 h3 p d B6 B8 n nm sn x r l (by omega) S S8 (g28.trans S8) (by omega) (by omega) e1 ap e3
     ·have S8:=(F1.get _ h8l h8p).trans S
      have:argV ab acc=sv ab 0 acc.length acc.length:=by
       cases acc with
       |nil=>exact absurd rfl e
       |cons u l=>rfl
      rw[this] at ap
      exact cb_on1 h h1 h2 h3 p d B6 B8 ab acc.length n nm sn x r l (by omega) S S8 (g28.trans S8) (by omega) (by omega) hdec e1 ap e3
    have SA:ArgS h3 nm lo B8 (h1.nx+2) (acc++[t]):=by
     refine ArgS.fr (.inr ⟨by simp,cs',?_,by omega,gbP,AP⟩) F23 h8p (by omega)
     rw[lenA];exact gp8
    obtain⟨hL,R,hR,nL,gL,wL,RL⟩:=ih (k1+1) (acc++[t]) (h1.nx+2) h3 (by rw[lenA];omega) (by omega) s3 SA ((F23.get _ (by omega) (by omega)).trans g6P)
    refine⟨hL,R+1,by omega,by omega,fun c hc hcp=>(gL c hc hcp).trans ((F23.get c (by omega) hcp).trans (Fh c hc hcp)),?_,?_⟩
    ·have:(al P2 9 [.string ⟨#[44]⟩]).wm=P2.wm:=rfl
     omega
    ·simp only
     split at RL
     next t' k' e4=>
      obtain⟨x',r',l',L,a,c,d⟩:=RL
      exact⟨x',r',l',.on hb L,a,c,d⟩
     next pos c e4=>
      rcases RL with⟨q,k',L,a,c,d,f⟩|⟨k',L,a⟩
      ·exact .inl ⟨q,k',.on hb L,a,c,d,f⟩
      ·exact .inr ⟨k',.on hb L,a⟩
   |none=>
    rw[hs] at S3
    obtain⟨rfl,rfl⟩:=S3
    have K4:Kp P2 (al (al P2 9 [.string ⟨#[44]⟩]) 9 [.string ⟨#[41]⟩]):=(Kc [.string ⟨#[44]⟩]).al _ _
    obtain⟨v4,h4,e4,S4⟩:=sign_law (ops:=[[41]]) (s2'.kp K4) n (by omega) (Heap.get_new _ _) (by decide)
    unfold SgTo at S4
    simp only
    cases hs4:sg ts [[41]] k1 with
    |some sn=>
     rw[hs4] at S4
     obtain⟨rfl,F4,n4,s4,w4,_⟩:=S4
     have F24:Fr P2 h4 p:=(K4.fr p).trans F4
     have l4:=F24.nx
     have g84:=(F24.get B8 (by omega) h8p).trans gp8
     have g64:=(F24.get B6 (by omega) (by omega)).trans g6P
     have hb:∃ H,BodyTo En (RD n) 79 5000 (sub [1,1,1,1,1,0,0,0] (bodyOf Tryz.f253)) (CS p d B6 B8 nm) h .ret [(6,pv B6 0),(7,.nilIface)] H∧(∀ c,c < h4.nx→c≠B6→H.get c=h4.get c)∧H.nx=h4.nx∧H.wm≤h4.wm∧H.wm≤B6∧H.get B6=some (.row 72 (ndL (hdOp 6 nm) (some ⟨h1.nx+2,0,none⟩) (acc.length+1)) 0 false):=by
      subst hP2
      rcases S with⟨e,S⟩|⟨e,cs,S,_⟩
      ·subst e
       have S8:=(F1.get _ h8l h8p).trans S
       exact cb_ok0 h h1 h2 h4 p d B6 B8 n nm sn x r l (by omega) S S8 (g28.trans S8) (by omega) (by omega) g84 g64 (by omega) e1 ap e3 e4
      ·have S8:=(F1.get _ h8l h8p).trans S
       have:argV ab acc=sv ab 0 acc.length acc.length:=by
        cases acc with
        |nil=>exact absurd rfl e
        |cons u l=>rfl
       rw[this] at ap
       exact cb_ok1 h h1 h2 h4 p d B6 B8 ab acc.length n nm sn x r l (by omega) S S8 (g28.trans S8) (by omega) (by omega) g84 g64 (by omega) hdec e1 ap e3 e4
     obtain⟨H,eb,g,nx,wm,_,w⟩:=hb
     refine⟨H,1,by omega,by omega,fun c hc hcp=>(g c (by omega) (by omega)).trans ((F24.get c (by omega) hcp).trans (Fh c hc hcp)),?_,?_⟩
     ·have:(al (al P2 9 [.string ⟨#[44]⟩]) 9 [.string ⟨#[41]⟩]).wm=P2.wm:=rfl
      omega
     ·refine⟨hdOp 6 nm,some ⟨h1.nx+2,0,none⟩,acc.length+1,.ret eb,w,?_,s4.away g (by omega) g64 (by omega)⟩
      have tr:∀ c o,lo≤c→P2.get c=some o→H.get c=some o:=fun c o hc e=>(g c (by have:=Heap.lt_of_get e;omega) (by omega)).trans ((F24.get c (Heap.lt_of_get e) (by omega)).trans e)
      have:=NodeC.mk (P:=fun c=>lo≤c) (ts:=acc++[t]) (cs:=cs') (hdOp 6 nm) (by show lo≤h1.nx+2;omega) (tr _ _ (by omega) gbP) (AP.mono fun c o hc e=>⟨hc.1,tr c o hc.1 e⟩)
      rw[lenA] at this
      exact this
    |none=>
     rw[hs4] at S4
     obtain⟨rfl,rfl⟩:=S4
     have hb:∃ H,BodyTo En (RD n) 79 5000 (sub [1,1,1,1,1,0,0,0] (bodyOf Tryz.f253)) (CS p d B6 B8 nm) h (.exit 0) [(0,pv p 0),(6,pv B6 0)] H∧(∀ c,c < h2.nx→c≠B8→H.get c=h2.get c)∧H.nx=h2.nx+2∧H.wm≤h2.wm∧H.wm≤B8:=by
      subst hP2
      rcases S with⟨e,S⟩|⟨e,cs,S,_⟩
      ·subst e
       have S8:=(F1.get _ h8l h8p).trans S
       exact cb_no0 h h1 h2 p d B6 B8 n nm x r l (by omega) S S8 (g28.trans S8) (by omega) (by omega) e1 ap e3 e4
      ·have S8:=(F1.get _ h8l h8p).trans S
       have:argV ab acc=sv ab 0 acc.length acc.length:=by
        cases acc with
        |nil=>exact absurd rfl e
        |cons u l=>rfl
       rw[this] at ap
       exact cb_no1 h h1 h2 p d B6 B8 ab acc.length n nm x r l (by omega) S S8 (g28.trans S8) (by omega) (by omega) hdec e1 ap e3 e4
     obtain⟨H,eb,g,nx,wm,_⟩:=hb
     have gHh:∀ c,c < B6→c≠p→H.get c=h.get c:=fun c hc hcp=>(g c (by omega) (by omega)).trans ((g2 c (by omega) (fun hne=>by have:=hab hne;omega)).trans (F1.get c (by omega) hcp))
     exact⟨H,1,by omega,by omega,gHh,by omega,.inr ⟨k1,.out eb,(g B6 (by omega) (by omega)).trans (g26.trans g61),rfl,rfl,s2.away g (by omega) (g28.trans g81) (by omega)⟩⟩
end
end Go.PanE
namespace Go.PanE
open Go.Proofs
section
variable {m:Int} {p b:Nat} {ts:List Tk} {E:Nat}
theorem opens_lt{k:Nat}(h:opens ts k=true):k+1 < ts.length:=by
 unfold opens at h
 cases hs:sg ts [[40]] (k+1) with
 |none=>rw[hs] at h;cases h
 |some s=>exact sg_lt ts hs
theorem call_law{f:PR}{d N:Nat}(hd:d≤40)(hf:LawA m p b ts E N 176 (d+1) f)(hN:3≤N)(n:Nat)(hn:N+1≤n)(h:Heap)(k:Nat)(x:Tk)(s:PSt m h p b ts E k)(ho:opens ts k=true):
  ∃ v h',RD n 253 [pv p 0,iv ((d:Nat):Int),.string ⟨⟨x.t⟩⟩] h=some (v,h')∧ResA m h p b ts E (callP ts E f x k) v h':=by
 obtain⟨n,rfl⟩:∃ m,n=m+1:=⟨n - 1,by omega⟩
 have K0:Kp h.fresh (al h.fresh 72 z72):=(Kp.refl _).al 72 z72
 have hp:=s.lt
 have h6:=s.p6
 have hT:=s.tT
 have hk1:=opens_lt ho
 have s0:=s.fresh.kp K0
 have n0:(al h.fresh 72 z72).nx=h.nx+1:=rfl
 have g0:(al h.fresh 72 z72).get h.nx=some (.row 72 z72 0 false):=gN (h:=h.fresh)
 unfold callP
 by_cases hl:8 < x.t.length
 ·rw[if_pos hl]
  obtain⟨h1,e1,K1,n1,g1⟩:=fail_law s0 n (by omega)
  obtain⟨H,e,g,nx,_⟩:=ca_long h h1 p d _ n ⟨⟨x.t⟩⟩ ((K1.get _ (Nat.lt_succ_self _)).trans g0) (Nat.lt_of_lt_of_le (Nat.lt_succ_self _) K1.nx) (gt_dec (a:=x.t.length) (b:=8) hl) e1
  exact res_err (lo:=h.nx+1) e s ((K0.trans K1).fr p) (fun c hc hd=>g c hc (by omega)) (by omega) (by omega) (by omega) g1 (s0.kp K1)
 ·rw[if_neg hl]
  have hlen:=gt_dec' (a:=x.t.length) (b:=8) hl
  have s1:PSt m (pt (al h.fresh 72 z72) p 274 [tsV b ts,iv (((k:Nat):Int)+2),iv E]) p b ts E (k+2):=s0.fr (Fr.put _ _ _ (by omega)) (Heap.get_put_same _ _ _ (by omega)) (by omega)
  have F1:Fr h.fresh (pt (al h.fresh 72 z72) p 274 [tsV b ts,iv (((k:Nat):Int)+2),iv E]) p:=(K0.fr p).trans (Fr.put _ _ _ (by omega))
  have g1:(pt (al h.fresh 72 z72) p 274 [tsV b ts,iv (((k:Nat):Int)+2),iv E]).get h.nx=some (.row 72 z72 0 false):=gO g0 (by omega) (by omega)
  have w1:(pt (al h.fresh 72 z72) p 274 [tsV b ts,iv (((k:Nat):Int)+2),iv E]).wm≤p:=by rw[Heap.wm_put];omega
  have n1:(pt (al h.fresh 72 z72) p 274 [tsV b ts,iv (((k:Nat):Int)+2),iv E]).nx=h.nx+1:=rfl
  have K1:Kp (pt (al h.fresh 72 z72) p 274 [tsV b ts,iv (((k:Nat):Int)+2),iv E]) (al (pt (al (pt (al h.fresh 72 z72) p 274 [tsV b ts,iv (((k:Nat):Int)+2),iv E]) 72 z72) (h.nx+1) 72 (ndL (hdOp 6 x.t) none 0)) 9 [.string ⟨#[41]⟩]):=
   (((Kp.refl _).al 72 z72).pt (b:=h.nx+1) 72 _ (Nat.le_refl _) (Nat.lt_succ_self _)).al _ _
  have n3:(al (pt (al (pt (al h.fresh 72 z72) p 274 [tsV b ts,iv (((k:Nat):Int)+2),iv E]) 72 z72) (h.nx+1) 72 (ndL (hdOp 6 x.t) none 0)) 9 [.string ⟨#[41]⟩]).nx=h.nx+3:=rfl
  have g8:(al (pt (al (pt (al h.fresh 72 z72) p 274 [tsV b ts,iv (((k:Nat):Int)+2),iv E]) 72 z72) (h.nx+1) 72 (ndL (hdOp 6 x.t) none 0)) 9 [.string ⟨#[41]⟩]).get (h.nx+1)=some (.row 72 (ndL (hdOp 6 x.t) none 0) 0 false):=gA (gP (by show h.nx+1 < h.nx+1+1;omega))
  obtain⟨v2,h2,e2,S2⟩:=sign_law (ops:=[[41]]) (q:=h.nx+2) (s1.kp K1) n (by omega) (Heap.get_new _ _) (by decide)
  unfold SgTo at S2
  cases hs:sg ts [[41]] (k+2) with
  |some sn=>
   rw[hs] at S2
   obtain⟨rfl,F2,n2,s2,w2,wp2⟩:=S2
   have n2':h2.nx=h.nx+3:=n2
   obtain⟨H,e,g,nx,wm,_⟩:=ca_nil h h2 p d k ts.length E n (tsR b ts) x.t sn s.pp (by omega) hp ((F2.get _ (by omega) (by omega)).trans ((K1.get _ (by omega)).trans g1)) (by omega) ((F2.get _ (by omega) (by omega)).trans g8) hlen e2
   exact res_ok2 (lo:=h.nx+1) (x:=hdOp 6 x.t) (r:=none) (l:=0) e s ((F1.trans (K1.fr p)).trans F2) (fun c hc hd=>g c hc (by omega)) (by omega) (by omega) (NodeC.leaf _ _ _) s2 (by omega)
  |none=>
   rw[hs] at S2
   obtain⟨rfl,rfl⟩:=S2
   obtain⟨hL,R,hR,nL,gL,wL,RL⟩:=ca_loop hd hf hN n (by omega) x.t h.nx (h.nx+1) (h.nx+2) (by omega) (by omega) hp 10 (k+2) [] 0 _ rfl (by rw[n3];omega) (s1.kp K1) (.inl ⟨rfl,g8⟩) ((K1.get _ (by omega)).trans g1)
   have FL:Fr h.fresh hL p:=⟨by show h.nx≤hL.nx;omega,fun c hc hcp=>by
    have hc':c < h.nx:=hc
    exact(gL c hc hcp).trans ((K1.get c (by omega)).trans (F1.get c hc hcp))⟩
   have hwL:hL.wm≤p:=Nat.le_trans wL (Nat.le_trans K1.wm w1)
   simp only
   split at RL
   next t k' e4=>
    obtain⟨y,r,l,L,a,c,sL⟩:=RL
    rw[e4]
    have eb:=ca_ret h hL p d k ts.length E n (tsR b ts) x.t y r l s.pp (by omega) hp a hlen e2 (L.fact' (by omega) ⟨by kernel_rfl,by kernel_rfl,by kernel_rfl,by kernel_rfl,by kernel_rfl,trivial⟩)
    exact res_ok2 (lo:=h.nx) eb s FL (fun _ _ _=>rfl) (Nat.le_refl _) (Nat.le_refl _) (c.mono fun c o hc e=>⟨⟨by omega,Heap.lt_of_get e⟩,e⟩) sL hwL
   next pos c e4=>
    rw[e4]
    rcases RL with⟨q,k',L,a,c1,d1,sL⟩|⟨k',L,a,rfl,rfl,sL⟩
    ·have eb:=ca_re h hL p d k ts.length E q n (tsR b ts) x.t s.pp (by omega) hp a hlen e2 (L.fact' (by omega) ⟨by kernel_rfl,by kernel_rfl,by kernel_rfl,by kernel_rfl,by kernel_rfl,trivial⟩)
     exact res_err (lo:=h.nx) eb s FL (fun _ _ _=>rfl) (Nat.le_refl _) (Nat.le_refl _) (by omega) d1 sL
    ·obtain⟨h4,e5,K5,n5,g5⟩:=fail_law sL n (by omega)
     obtain⟨H,eb,g,nx,_⟩:=ca_ex h h4 hL p d k ts.length E _ n (tsR b ts) x.t s.pp (by omega) hp ((K5.get _ (Heap.lt_of_get a)).trans a) (Nat.lt_of_lt_of_le (Heap.lt_of_get a) K5.nx) hlen e2 (L.fact' (by omega) ⟨by kernel_rfl,by kernel_rfl,by kernel_rfl,by kernel_rfl,by kernel_rfl,trivial⟩) e5
     exact res_err (lo:=h.nx+1) eb s (FL.trans (K5.fr p)) (fun c hc hd=>g c hc (by omega)) (by omega) (by omega) (by omega) g5 (sL.kp K5)
end
end Go.PanE
namespace Go.PanE
open Go.Proofs
theorem Fr.of_wm'{h g:Heap}{p:Nat}(a:Fr h g p):Fr h.fresh g p:=⟨a.nx,a.get⟩
section
variable {m:Int} {p b:Nat} {ts:List Tk} {E:Nat} {A:List UInt8→Option (Nat×Nat)} {N0:Nat}
theorem hs_one{a:List UInt8}{k:Nat}{s:List UInt8}(h:sg ts [a] k=some s):s=a:=by
 unfold sg at h
 split at h
 ·split at h
  next hc=>simp only[Option.some.injEq] at h;rw[← h];simpa using hc.2
  ·cases h
 ·cases h
theorem name_law(hA:AdrA m A N0)(hlen:∀ x∈ts,x.t.length≤4000){f:PR}{d N:Nat}(hd:d≤40)(hf:LawA m p b ts E N 176 (d+1) f)(hN:3≤N)(hN0:N0+4≤N)(n:Nat)(hn:N+2≤n)(h:Heap)(k:Nat)(x:Tk)(s:PSt m h p b ts E k)(hx:ts[k]? =some x)(hx3:x.k=3):
  ∃ v h',RD n 250 [pv p 0,iv ((d:Nat):Int),.string ⟨⟨x.t⟩⟩] h=some (v,h')∧ResA m h p b ts E (nameP ts E A f x k) v h':=by
 obtain⟨n,rfl⟩:∃ m,n=m+1:=⟨n - 1,by omega⟩
 have K0:Kp h.fresh (al h.fresh 72 z72):=(Kp.refl _).al 72 z72
 have hp:=s.lt
 have h6:=s.p6
 have hT:=s.tT
 have hk:k < ts.length:=(List.getElem?_eq_some_iff.1 hx).1
 have s0:=s.fresh.kp K0
 have n0:(al h.fresh 72 z72).nx=h.nx+1:=rfl
 have g0:(al h.fresh 72 z72).get h.nx=some (.row 72 z72 0 false):=gN (h:=h.fresh)
 have eo:=opens_law s0 n (by omega)
 unfold nameP
 cases ho:opens ts k with
 |true=>
  rw[ho] at eo
  obtain⟨v1,h1,e1,F1,_,R1⟩:=call_law hd hf hN n (by omega) _ k x s0 ho
  have l1:=F1.nx
  have g1:=(F1.get h.nx (by omega) (by omega)).trans g0
  have T1:=(K0.fr p).trans F1
  simp only[if_true]
  split at R1
  next t k' e=>
   obtain⟨y,r,l,rfl,N1,s1,wp⟩:=R1
   obtain⟨H,eb,g,nx,wm,_⟩:=na_c h h1 p d n x.t y r l g1 (by omega) eo e1
   rw[e]
   exact res_ok (lo:=h.nx+1) eb s T1 (fun c hc hd=>g c hc (by omega)) (by omega) (by omega) N1 (Nat.le_refl _) s1 (by omega)
  next pos c e=>
   obtain⟨q,k',rfl,hq,gq,s1⟩:=R1
   obtain⟨H,eb,g,nx,_⟩:=na_ce h h1 p d q n x.t g1 (by omega) eo e1
   rw[e]
   exact res_err (lo:=h.nx+1) eb s T1 (fun c hc hd=>g c hc (by omega)) (by omega) (by omega) hq gq s1
 |false=>
  rw[ho] at eo
  simp only[Bool.false_eq_true,if_false]
  by_cases ht:x.t=[84,82,85,69]
  ·rw[if_pos ht]
   obtain⟨H,eb,g,nx,wm,wp,w⟩:=na_t h p d k ts.length E n (tsR b ts) x.t s.pp (by omega) hp eo (by rw[ht];rfl)
   have s1:PSt m (pt h p 274 [tsV b ts,iv (((k:Nat):Int)+1),iv E]) p b ts E (k+1):=s.fr (Fr.put _ _ _ (by omega)) (Heap.get_put_same _ _ _ (by omega)) (by omega)
   refine res_ok2 (x:=hdVal 1 1 []) (r:=none) (l:=0) (lo:=h.nx) eb s (hk:=pt h p 274 [tsV b ts,iv (((k:Nat):Int)+1),iv E]) (Fr.of_wm' (Fr.put h p _ hp)) (fun c hc hd=>?_) (by show h.nx≤H.nx;omega) (Nat.le_refl _) (NodeC.leaf _ _ _) s1 wp
   have hc':c < h.nx:=hc
   by_cases hcp:c=p
   ·subst hcp;exact w.trans (Heap.get_put_same _ _ _ hp).symm
   ·exact(g c hc' hcp).trans (Heap.get_put_other _ _ _ _ hp hcp).symm
  ·rw[if_neg ht]
   have e1:((⟨⟨x.t⟩⟩:ByteArray).data.toList==(⟨#[84,82,85,69]⟩:ByteArray).data.toList)=false:=by have:=beqL x.t [84,82,85,69];rw[decide_eq_false ht] at this;exact this
   by_cases hf':x.t=[70,65,76,83,69]
   ·rw[if_pos hf']
    obtain⟨H,eb,g,nx,wm,wp,w⟩:=na_f h p d k ts.length E n (tsR b ts) x.t s.pp (by omega) hp eo e1 (by rw[hf'];rfl)
    have s1:PSt m (pt h p 274 [tsV b ts,iv (((k:Nat):Int)+1),iv E]) p b ts E (k+1):=s.fr (Fr.put _ _ _ (by omega)) (Heap.get_put_same _ _ _ (by omega)) (by omega)
    refine res_ok2 (x:=hdVal 1 0 []) (r:=none) (l:=0) (lo:=h.nx) eb s (hk:=pt h p 274 [tsV b ts,iv (((k:Nat):Int)+1),iv E]) (Fr.of_wm' (Fr.put h p _ hp)) (fun c hc hd=>?_) (by show h.nx≤H.nx;omega) (Nat.le_refl _) (NodeC.leaf _ _ _) s1 wp
    have hc':c < h.nx:=hc
    by_cases hcp:c=p
    ·subst hcp;exact w.trans (Heap.get_put_same _ _ _ hp).symm
    ·exact(g c hc' hcp).trans (Heap.get_put_other _ _ _ _ hp hcp).symm
   ·rw[if_neg hf']
    have e2:((⟨⟨x.t⟩⟩:ByteArray).data.toList==(⟨#[70,65,76,83,69]⟩:ByteArray).data.toList)=false:=by have:=beqL x.t [70,65,76,83,69];rw[decide_eq_false hf'] at this;exact this
    have hcA:cellP ts A k=A x.t:=by unfold cellP;rw[hx];simp[ho,hx3]
    obtain⟨v1,h1,e3,F1,_,R1⟩:=cell_law hA hlen n (by omega) _ k s0
    have l1:=F1.nx
    have g1:=(F1.get h.nx (by omega) (by omega)).trans g0
    have T1:=(K0.fr p).trans F1
    rw[hcA] at R1
    cases hAx:A x.t with
    |none=>
     rw[hAx] at R1
     obtain⟨q,rfl,hq,gq,s1⟩:=R1
     obtain⟨H,eb,g,nx,_⟩:=na_e h h1 p d q n x.t 0 0 g1 (by omega) eo e1 e2 e3
     exact res_err (lo:=h.nx+1) eb s T1 (fun c hc hd=>g c hc (by omega)) (by omega) (by omega) hq gq s1
    |some v=>
     obtain⟨a,c⟩:=v
     rw[hAx] at R1
     obtain⟨rfl,s1,wp⟩:=R1
     have K1:Kp h1 (al (pt (al h1 29 [iv 0,iv 0]) h1.nx 29 [iv (a:Int),iv (c:Int)]) 9 [.string ⟨#[58]⟩]):=(((Kp.refl h1).al _ _).pt _ _ (Nat.le_refl _) (Nat.lt_succ_self _)).al _ _
     have ga:(al (pt (al h1 29 [iv 0,iv 0]) h1.nx 29 [iv (a:Int),iv (c:Int)]) 9 [.string ⟨#[58]⟩]).get h1.nx=some (.row 29 [iv (a:Int),iv (c:Int)] 0 false):=gA (gP (Nat.lt_succ_self _))
     obtain⟨v2,h2,e4,S2⟩:=sign_law (ops:=[[58]]) (s1.kp K1) n (by omega) (Heap.get_new _ _) (by decide)
     unfold SgTo at S2
     simp only
     cases hs:sg ts [[58]] (k+1) with
     |none=>
      rw[hs] at S2
      obtain⟨rfl,rfl⟩:=S2
      obtain⟨H,eb,g,nx,wm,_⟩:=na_r h h1 p d n x.t a c g1 (by omega) eo e1 e2 e3 e4
      exact res_ok2 (x:=hdRef 2 a c 0 0) (r:=none) (l:=0) (lo:=h.nx+1) eb s T1 (fun c hc hd=>g c hc (by omega)) (by omega) (by omega) (NodeC.leaf _ _ _) s1 (by omega)
     |some sn=>
      rw[hs] at S2
      obtain⟨rfl,F2,n2,s2,w2,wp2⟩:=S2
      have n2':h2.nx=h1.nx+2:=n2
      obtain⟨v3,h3,e5,F3,w3,R3⟩:=cell_law hA hlen n (by omega) h2 (k+1+1) s2
      have l3:=F3.nx
      have F13:Fr h1 h3 p:=((K1.fr p).trans F2).trans F3
      have g3:h3.get h.nx=some (.row 72 z72 0 false):=(F13.get _ (by omega) (by omega)).trans g1
      have ga3:h3.get h1.nx=some (.row 29 [iv (a:Int),iv (c:Int)] 0 false):=(F3.get _ (by omega) (by omega)).trans ((F2.get _ (by show h1.nx < h1.nx+1+1;omega) (by omega)).trans ga)
      have T3:=T1.trans F13
      simp only
      cases hc2:cellP ts A (k+1+1) with
      |none=>
       rw[hc2] at R3
       obtain⟨q,rfl,hq,gq,s3⟩:=R3
       obtain⟨H,eb,g,nx,_⟩:=na_e2 h h1 h2 h3 p d q n x.t sn a c 0 0 g3 (by omega) eo e1 e2 e3 e4 e5
       exact res_err (lo:=h.nx+1) eb s T3 (fun c hc hd=>g c hc (by omega)) (by omega) (by omega) (by omega) gq s3
      |some v=>
       obtain⟨u,w⟩:=v
       rw[hc2] at R3
       obtain⟨rfl,s3,wp3⟩:=R3
       have hu:1≤u∧u≤1000∧1≤w∧w≤50:=by
        unfold cellP at hc2
        split at hc2
        ·split at hc2
         ·exact hA.1 _ _ _ hc2
         ·cases hc2
        ·cases hc2
       have em:=made_law (hA.1 _ _ _ hAx) hu (pt (al h3 29 [iv 0,iv 0]) h3.nx 29 [iv (u:Int),iv (w:Int)]) n (by omega)
       obtain⟨H,eb,g,nx,wm,_⟩:=na_g h h1 h2 h3 p d n x.t sn a c u w _ _ _ _ g3 (by omega) ga3 (by omega) eo e1 e2 e3 e4 e5 em
       exact res_ok2 (x:=hdRef 3 ((min a u:Nat):Int) ((min c w:Nat):Int) ((max a u:Nat):Int) ((max c w:Nat):Int)) (r:=none) (l:=0) (lo:=h.nx+1) eb s T3 (fun c hc hd=>g c hc (by omega)) (by omega) (by omega) (NodeC.leaf _ _ _) s3 (by omega)
end
end Go.PanE
