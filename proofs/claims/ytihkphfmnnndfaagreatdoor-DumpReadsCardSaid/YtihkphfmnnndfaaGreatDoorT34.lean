/-
 Part 34 of the proof of Rows.DumpReadsCardSaid: tree.Parse: its law. No conditions but what addr.Parse makes of a name.
 The reference's parser, small parts: paths printed by sx.py (m17.py).
 The reference's parser, small parts: their laws.
 The reference's parser, its levels: paths printed by sx.py (m18.py).
-/
import Derived.Test.YtihkphfmnnndfaaGreatDoorT33
namespace Go.PanE
open Go.Proofs
/-- What tree.Parse hands back. -/
def ParB(h:Heap)(R:Res)(v:Value)(h':Heap):Prop:=
 Kp h h'∧match R with
  | .err pos c=>v= .tuple #[z72V,iv (pos:Int),iv (c:Int)]
  | .ok t _=>∃ x r l,v= .tuple #[ndV x r l,iv 0,iv 0]∧NodeI h' h.nx h'.nx x r l t
theorem parse_law{m:Int}{A:List UInt8→Option (Nat×Nat)}{N0:Nat}(hA:AdrA m A N0)(s:ByteArray)(h:Heap)(n:Nat)(hn:N0+1431≤n)(G:Gl m h):
  ∃ v h',RD n 105 [.string s] h=some (v,h')∧ParB h (parseM A s.data.toList) v h':=by
 obtain⟨n,rfl⟩:∃ m,n=m+1:=⟨n - 1,by omega⟩
 have K0:Kp h.fresh (al h.fresh 72 z72):=(Kp.refl _).al 72 z72
 have g0:(al h.fresh 72 z72).get h.nx=some (.row 72 z72 0 false):=gN (h:=h.fresh)
 have hG:=G.nx
 obtain⟨v1,h1,e1,K1,R1⟩:=parsed_law hA s (al h.fresh 72 z72) n (by omega) (G.fresh.alloc _)
 have l1:h.nx+1≤h1.nx:=K1.nx
 have g1:=(K1.get h.nx (Nat.lt_succ_self _)).trans g0
 have K01:=K0.trans K1
 cases hp:parseM A s.data.toList with
 |err pos c=>
  rw[hp] at R1
  obtain⟨q,rfl,hq,gq⟩:=R1
  have hq':h.nx+1≤q:=hq
  have K2:Kp h1 (al (pt (al h1 72 z72) h1.nx 72 z72) 242 [.pointer none]):=(((Kp.refl h1).al _ _).pt _ _ (Nat.le_refl _) (Nat.lt_succ_self _)).al _ _
  have gt:(al (pt (al h1 72 z72) h1.nx 72 z72) 242 [.pointer none]).get (h1.nx+1)=some (.row 242 [.pointer none] 0 false):=gN (h:=pt (al h1 72 z72) h1.nx 72 z72)
  have G2:Gl m (al (pt (al h1 72 z72) h1.nx 72 z72) 242 [.pointer none]):=⟨by show 14≤h1.nx+1+1;omega,fun c hc=>(K2.get c (by omega)).trans ((K01.get c (by show c < h.nx;omega)).trans (G.get c hc))⟩
  have ea:=as_tree G2 q (h1.nx+1) _ gt n (by omega)
  have K3:=K2.pt (b:=h1.nx+1) 242 [pv q 0] (by omega) (by show h1.nx+1 < h1.nx+1+1;omega)
  obtain⟨H,e,g,nx,_,wm⟩:=pr_e h h1 _ s pos c q n (by omega) g1 (by omega) ((K3.get _ (by omega)).trans g1) (by have:=K3.nx;omega) (gP (by show h1.nx+1 < h1.nx+1+1;omega)) ((K3.get q (Heap.lt_of_get gq)).trans gq) e1 ea
  have KH:Kp h.fresh H:=⟨by show h.nx≤H.nx;have:=K3.nx;omega,fun c hc=>by
   have hc':c < h.nx:=hc
   exact(g c (by have:=K3.nx;omega) (by omega)).trans ((K3.get c (by omega)).trans (K01.get c hc)),wm⟩
  exact⟨_,_,fin e,KH.fin,rfl⟩
 |ok t k=>
  rw[hp] at R1
  obtain⟨x,r,l,rfl,N1⟩:=R1
  obtain⟨H,e,g,nx,_,wm⟩:=pr_ok h h1 s n x r l g1 (by omega) e1 (as_nil _ _ n (by omega))
  have KH:Kp h.fresh H:=⟨by show h.nx≤H.nx;omega,fun c hc=>by
   have hc':c < h.nx:=hc
   exact(g c (by omega) (by omega)).trans (K01.get c hc),wm⟩
  have NH:NodeI H h.nx H.nx x r l t:=NodeC.mono (fun c o hc e=>⟨⟨by have:h.nx+1≤c:=hc.1;omega,by have:=hc.2;omega⟩,(g c (Heap.lt_of_get e) (by have:h.nx+1≤c:=hc.1;omega)).trans e⟩) N1
  obtain⟨h',e',K',N'⟩:=fin_node [iv 0,iv 0] e KH NH
  exact⟨_,h',e',K',x,r,l,rfl,N'⟩
end Go.PanE
namespace Go.PanE
open Go.Proofs
noncomputable section
abbrev z0_1(b T k E d c w:Nat):AObj:=.row 160 [sv b 0 T T,iv (k:Int),iv E,iv (d:Int),iv (c:Int),iv (w:Int)] 0 false
abbrev z0_2(r:Option Addr)(T k E d c w:Nat):AObj:=.row 160 [.slice r T T,iv (k:Int),iv E,iv (d:Int),iv (c:Int),iv (w:Int)] 0 false
abbrev z0_3(ts:List Tk):AObj:=.row 199 (tkC ts) 4 false
abbrev z0_4(s:List UInt8)(h:Heap):Value:=.agg #[iv 5,iv 0,iv 0,.string ⟨#[]⟩,iv 0,iv 0,iv 0,iv 0,.string ⟨⟨s⟩⟩,sv (h.nx+3) 0 2 2]
abbrev z0_5(p q n0 i:Nat):List (Nat×Value):=[(0,pv p 0),(1,sv q 0 n0 n0),(5,iv (i:Int))]
theorem qs_c(h:Heap)(p k T E d c w:Nat)(r:Option Addr)(t:List UInt8)(n:Nat)(hp:h.get p=some (z0_2 r T k E d c w))(a0:(((c:Int):Int)==0)=false):Fn n 152 [pv p 0,.string ⟨⟨t⟩⟩] h (.bool false) h.fresh:=
 fnV (kI (ko hp)) [.l 0 3 4,yF a0,yN h.nx,.q (.l 0 3 4),.z 0]
theorem qs_e(h:Heap)(p k T E d c w:Nat)(r:Option Addr)(t:List UInt8)(n:Nat)(hp:h.get p=some (z0_2 r T k E d c w))(a0:(((c:Int):Int)==0)=true)(a1:decide (((k:Int):Int) < T)=false):Fn n 152 [pv p 0,.string ⟨⟨t⟩⟩] h (.bool false) h.fresh:=
 fnV (kI (ko hp)) [.l 0 3 4,yT a0,.l 0 3 1,.l 0 155 0,yF a1,yN h.nx,.q (.l 0 3 4),.q (.l 0 3 1),.q (.l 0 155 0),yQ (iv T),.z 0]
theorem qs_k(h:Heap)(p b k T E d c w:Nat)(t:List UInt8)(ts:List Tk)(x:Tk)(n:Nat)(hp:h.get p=some (z0_1 b T k E d c w))(hb:h.get b=some (z0_3 ts))(hx:ts[k]? =some x)(_h1:k < T)(_h2:T < 4611686018427387904)(_hl:p < h.nx)(_hb:b < h.nx)(a0:(((c:Int):Int)==0)=true)(a1:decide (((k:Int):Int) < T)=true)(a2:(((x.k:Int):Int)==4)=false):Fn n 152 [pv p 0,.string ⟨⟨t⟩⟩] h (.bool false) h.fresh:=
 fnV (kJ (ko hp) (kx hb hx)) [.l 0 3 4,yT a0,.l 0 3 1,.l 0 155 0,yT a1,.l 0 155 0,.l 0 3 1,iA 155 199 4 b T k,.k 1 3 0,yF a2,yN h.nx,.q (.l 0 3 4),.q (.l 0 3 1),.q (.l 0 155 0),yQ (iv T),.q (.l 0 155 0),.q (.l 0 3 1),.q (.k 1 3 0),.z 0]
theorem qs_n(h:Heap)(p b k T E d c w:Nat)(t:List UInt8)(ts:List Tk)(x:Tk)(n:Nat)(hp:h.get p=some (z0_1 b T k E d c w))(hb:h.get b=some (z0_3 ts))(hx:ts[k]? =some x)(_h1:k < T)(_h2:T < 4611686018427387904)(_hl:p < h.nx)(_hb:b < h.nx)(a0:(((c:Int):Int)==0)=true)(a1:decide (((k:Int):Int) < T)=true)(a2:(((x.k:Int):Int)==4)=true)(a3:bqS ⟨⟨x.t⟩⟩ ⟨⟨t⟩⟩=false):Fn n 152 [pv p 0,.string ⟨⟨t⟩⟩] h (.bool false) h.fresh:=
 fnV (kJ (ko hp) (kx hb hx)) [.l 0 3 4,yT a0,.l 0 3 1,.l 0 155 0,yT a1,.l 0 155 0,.l 0 3 1,iA 155 199 4 b T k,.k 1 3 0,yT a2,.l 0 155 0,.l 0 3 1,iA 155 199 4 b T k,.k 1 9 1,yF a3,yN h.nx,.q (.l 0 3 4),.q (.l 0 3 1),.q (.l 0 155 0),yQ (iv T),.q (.l 0 155 0),.q (.l 0 3 1),.q (.k 1 3 0),.q (.l 0 155 0),.q (.l 0 3 1),.q (.k 1 9 1),.z 0]
theorem qs_y(h:Heap)(p b k T E d c w:Nat)(t:List UInt8)(ts:List Tk)(x:Tk)(n:Nat)(hp:h.get p=some (z0_1 b T k E d c w))(hb:h.get b=some (z0_3 ts))(hx:ts[k]? =some x)(_h1:k < T)(_h2:T < 4611686018427387904)(_hl:p < h.nx)(_hb:b < h.nx)(a0:(((c:Int):Int)==0)=true)(a1:decide (((k:Int):Int) < T)=true)(a2:(((x.k:Int):Int)==4)=true)(a3:bqS ⟨⟨x.t⟩⟩ ⟨⟨t⟩⟩=true):Fn n 152 [pv p 0,.string ⟨⟨t⟩⟩] h (.bool true) h.fresh:=
 fnV (kJ (ko hp) (kx hb hx)) [.l 0 3 4,yT a0,.l 0 3 1,.l 0 155 0,yT a1,.l 0 155 0,.l 0 3 1,iA 155 199 4 b T k,.k 1 3 0,yT a2,.l 0 155 0,.l 0 3 1,iA 155 199 4 b T k,.k 1 9 1,yT a3,yN h.nx,.q (.l 0 3 4),.q (.l 0 3 1),.q (.l 0 155 0),yQ (iv T),.q (.l 0 155 0),.q (.l 0 3 1),.q (.k 1 3 0),.q (.l 0 155 0),.q (.l 0 3 1),.q (.k 1 9 1),.z 0]
theorem qo_on(h:Heap)(p q n0 i:Nat)(s:ByteArray)(n:Nat)(_h1:i < n0)(_h2:n0 < 4611686018427387904)(a0:decide (((i:Int):Int) < n0)=true)(a1:LD h 9 q (0+i * 1) (.string s))(a2:Pu n 152 [pv p 0,.string s] (.bool false) h):Bd n 22 [1,0,1,0,0] Tryz.f111 (z0_5 p q n0 i) h .normal [(0,pv p 0),(1,sv q 0 n0 n0),(5,iv ((i:Int)+1))] h:=
 bdF (kZ h) [yT a0,iA 32 9 1 q n0 i,yE a1,yP a2,yW ((i:Int)+1),.z 0]
theorem qo_hit(h:Heap)(p q n0 i:Nat)(s:ByteArray)(n:Nat)(_h1:i < n0)(_h2:n0 < 4611686018427387904)(a0:decide (((i:Int):Int) < n0)=true)(a1:LD h 9 q (0+i * 1) (.string s))(a2:Pu n 152 [pv p 0,.string s] (.bool true) h)(a3:LD h 9 q (0+i * 1) (.string s)):Bd n 22 [1,0,1,0,0] Tryz.f111 (z0_5 p q n0 i) h .ret [(4,.string s)] h:=
 bdF (kZ h) [yT a0,iA 32 9 1 q n0 i,yE a1,yP a2,iA 32 9 1 q n0 i,yE a3,.z 0]
theorem qo_end(h:Heap)(p q n0 i n:Nat)(a0:decide (((i:Int):Int) < n0)=false):Bd n 22 [1,0,1,0,0] Tryz.f111 (z0_5 p q n0 i) h (.exit 0) [] h:=
 bdF (kZ h) [yF a0]
theorem qo_p1(h:Heap)(p q n0:Nat)(s:ByteArray)(n:Nat)(a0:Lf n 22 [1,0,1,0,0] Tryz.f111 [(0,pv p 0),(1,sv q 0 n0 n0),(4,.string ⟨#[]⟩),(5,iv 0)] h.fresh .ret [(4,.string s)] (Heap.fresh h)):Fn n 111 [pv p 0,sv q 0 n0 n0] h (.string s) (Heap.fresh h):=
 fnV (kZ h) [yS a0 (kZ (Heap.fresh h)),.z 0]
theorem qo_p2(h:Heap)(p q n0 n:Nat)(a0:Lf n 22 [1,0,1,0,0] Tryz.f111 [(0,pv p 0),(1,sv q 0 n0 n0),(4,.string ⟨#[]⟩),(5,iv 0)] h.fresh (.exit 0) [] (Heap.fresh h)):Fn n 111 [pv p 0,sv q 0 n0 n0] h (.string ⟨#[]⟩) (Heap.fresh h):=
 fnV (kZ h) [yS a0 (kZ (Heap.fresh h)),.z 0]
theorem qb_c(h:Heap)(p k T E d c w:Nat)(r:Option Addr)(n:Nat)(hp:h.get p=some (z0_2 r T k E d c w))(a0:(((c:Int):Int) !=0)=true):Fn n 79 [pv p 0] h (.tuple #[]) h.fresh:=
 fnT (kI (ko hp)) [.l 0 3 4,yT a0]
theorem qb_e(h:Heap)(p k T E d c w:Nat)(r:Option Addr)(n:Nat)(hp:h.get p=some (z0_2 r T k E d c w))(_hl:p < h.nx)(a0:(((c:Int):Int) !=0)=false)(a1:decide (((k:Int):Int) < T)=false):∃ H,Fn n 79 [pv p 0] h (.tuple #[]) H∧tw1 h h.fresh.wm p h.nx H (H.get p=some (.row 160 [.slice r T T,iv (k:Int),iv E,iv (d:Int),iv 13,iv E] 0 false)):=
 exT (kI (ko hp)) [.l 0 3 4,yF a0,.l 0 3 2,.w 0 3 4 (iv 13),.w 0 3 5 (iv E),.l 0 3 1,.l 0 155 0,yF a1,yN h.nx,.q (.l 0 3 1),.q (.l 0 155 0),yQ (iv T)] [0]
theorem qb_in(h:Heap)(p b k T E d c w:Nat)(ts:List Tk)(x:Tk)(n:Nat)(hp:h.get p=some (z0_1 b T k E d c w))(hb:h.get b=some (z0_3 ts))(hx:ts[k]? =some x)(_h1:k < T)(_h2:T < 4611686018427387904)(_hl:p < h.nx)(_hb:b < h.nx)(_hpb:b≠p)(a0:(((c:Int):Int) !=0)=false)(a1:decide (((k:Int):Int) < T)=true):∃ H,Fn n 79 [pv p 0] h (.tuple #[]) H∧tw1 h h.fresh.wm p h.nx H (H.get p=some (.row 160 [sv b 0 T T,iv (k:Int),iv E,iv (d:Int),iv 13,iv (x.at_:Int)] 0 false)):=
 exT (kJ (ko hp) (kx hb hx)) [.l 0 3 4,yF a0,.l 0 3 2,.w 0 3 4 (iv 13),.w 0 3 5 (iv E),.l 0 3 1,.l 0 155 0,yT a1,yN h.nx,.q (.l 0 3 1),.q (.l 0 155 0),yQ (iv T),.l 0 155 0,.l 0 3 1,iA 155 199 4 b T k,.k 1 3 2,.w 0 3 5 (iv (x.at_:Int)),yN h.nx,.j 1,.q (.l 0 155 0),.q (.l 0 3 1),.q (.k 1 3 2),.j 2] [0]
theorem qi_bad(h:Heap)(p k T E d:Nat)(r:Option Addr)(n:Nat)(hp:h.get p=some (.row 160 [.slice r T T,iv (k:Int),iv E,iv (d:Int),iv 0,iv 0] 0 false))(_hl:p < h.nx)(_hd:d < 100)(a0:decide (((d:Int):Int)≥40)=true):∃ H,Fn n 208 [pv p 0] h (.bool false) H∧tw1 h h.fresh.wm p h.nx H (H.get p=some (.row 160 [.slice r T T,iv (k:Int),iv E,iv ((d:Int)+1),iv 14,iv 0] 0 false)):=
 exV (kI (ko hp)) [.l 0 3 3,yT a0,.l 0 3 4,bT,.w 0 3 4 (iv 14),.w 0 3 5 (iv 0),.l 0 3 3,yW ((d:Int)+1),.w 0 3 3 (iv ((d:Int)+1)),.l 0 3 4,bF,.z 0] [0]
theorem qi_ok(h:Heap)(p k T E d:Nat)(r:Option Addr)(n:Nat)(hp:h.get p=some (.row 160 [.slice r T T,iv (k:Int),iv E,iv (d:Int),iv 0,iv 0] 0 false))(_hl:p < h.nx)(_hd:d < 100)(a0:decide (((d:Int):Int)≥40)=false):∃ H,Fn n 208 [pv p 0] h (.bool true) H∧tw1 h h.fresh.wm p h.nx H (H.get p=some (.row 160 [.slice r T T,iv (k:Int),iv E,iv ((d:Int)+1),iv 0,iv 0] 0 false)):=
 exV (kI (ko hp)) [.l 0 3 3,yF a0,.l 0 3 3,yW ((d:Int)+1),.w 0 3 3 (iv ((d:Int)+1)),.l 0 3 4,bT,.z 0] [0]
theorem qc_no(h h1:Heap)(p n:Nat)(a0:Pu n 152 [pv p 0,.string ⟨#[41]⟩] (.bool false) h.fresh)(a1:RD n 79 [pv p 0] h.fresh=some (.tuple #[],h1)):Fn n 233 [pv p 0] h (.tuple #[]) h1:=
 fnT (kZ h) [yP a0,yC a1 (kZ h1)]
theorem qc_yes(h:Heap)(p k T E d c w:Nat)(r:Option Addr)(n:Nat)(hp:h.get p=some (z0_2 r T k E d c w))(_hl:p < h.nx)(_h1:k < 1000)(a0:Pu n 152 [pv p 0,.string ⟨#[41]⟩] (.bool true) h.fresh):∃ H,Fn n 233 [pv p 0] h (.tuple #[]) H∧tw1 h h.fresh.wm p h.nx H (H.get p=some (.row 160 [.slice r T T,iv ((k:Int)+1),iv E,iv (d:Int),iv (c:Int),iv (w:Int)] 0 false)):=
 exT (kI (ko hp)) [yP a0,.l 0 3 1,yW ((k:Int)+1),.w 0 3 1 (iv ((k:Int)+1))] [0]
theorem qd_end(h:Heap)(p k T E d c w:Nat)(r:Option Addr)(n:Nat)(hp:h.get p=some (z0_2 r T k E d c w))(_h1:k < 4611686018427387904)(a0:decide (((k:Int)+1:Int) < T)=false):Fn n 240 [pv p 0] h (.bool false) h.fresh:=
 fnV (kI (ko hp)) [.l 0 3 1,yW ((k:Int)+1),.l 0 155 0,yF a0,yN h.nx,.q (.l 0 3 1),.q (.l 0 155 0),yQ (iv T),.z 0]
theorem qd_k(h:Heap)(p b k T E d c w:Nat)(ts:List Tk)(x:Tk)(n:Nat)(hp:h.get p=some (z0_1 b T k E d c w))(hb:h.get b=some (z0_3 ts))(hx:ts[k+1]? =some x)(_h1:k+1 < T)(_h2:T < 4611686018427387904)(a0:decide (((k:Int)+1:Int) < T)=true)(a1:(((x.k:Int):Int)==4)=false):Fn n 240 [pv p 0] h (.bool false) h.fresh:=
 fnV (kJ (ko hp) (kx hb hx)) [.l 0 3 1,yW ((k:Int)+1),.l 0 155 0,yT a0,.l 0 155 0,.l 0 3 1,yW ((k:Int)+1),iB 155 199 4 b T k,.k 1 3 0,yF a1,yN h.nx,.q (.l 0 3 1),.q (.l 0 155 0),yQ (iv T),.q (.l 0 155 0),.q (.l 0 3 1),.q (.k 1 3 0),.z 0]
theorem qd_t(h:Heap)(p b k T E d c w:Nat)(ts:List Tk)(x:Tk)(n:Nat)(hp:h.get p=some (z0_1 b T k E d c w))(hb:h.get b=some (z0_3 ts))(hx:ts[k+1]? =some x)(_h1:k+1 < T)(_h2:T < 4611686018427387904)(a0:decide (((k:Int)+1:Int) < T)=true)(a1:(((x.k:Int):Int)==4)=true)(a2:bqS ⟨⟨x.t⟩⟩ ⟨#[40]⟩=false):Fn n 240 [pv p 0] h (.bool false) h.fresh:=
 fnV (kJ (ko hp) (kx hb hx)) [.l 0 3 1,yW ((k:Int)+1),.l 0 155 0,yT a0,.l 0 155 0,.l 0 3 1,yW ((k:Int)+1),iB 155 199 4 b T k,.k 1 3 0,yT a1,.l 0 155 0,.l 0 3 1,yW ((k:Int)+1),iB 155 199 4 b T k,.k 1 9 1,yF a2,yN h.nx,.q (.l 0 3 1),.q (.l 0 155 0),yQ (iv T),.q (.l 0 155 0),.q (.l 0 3 1),.q (.k 1 3 0),.q (.l 0 155 0),.q (.l 0 3 1),.q (.k 1 9 1),.z 0]
theorem qd_y(h:Heap)(p b k T E d c w:Nat)(ts:List Tk)(x:Tk)(n:Nat)(hp:h.get p=some (z0_1 b T k E d c w))(hb:h.get b=some (z0_3 ts))(hx:ts[k+1]? =some x)(_h1:k+1 < T)(_h2:T < 4611686018427387904)(a0:decide (((k:Int)+1:Int) < T)=true)(a1:(((x.k:Int):Int)==4)=true)(a2:bqS ⟨⟨x.t⟩⟩ ⟨#[40]⟩=true):Fn n 240 [pv p 0] h (.bool true) h.fresh:=
 fnV (kJ (ko hp) (kx hb hx)) [.l 0 3 1,yW ((k:Int)+1),.l 0 155 0,yT a0,.l 0 155 0,.l 0 3 1,yW ((k:Int)+1),iB 155 199 4 b T k,.k 1 3 0,yT a1,.l 0 155 0,.l 0 3 1,yW ((k:Int)+1),iB 155 199 4 b T k,.k 1 9 1,yT a2,yN h.nx,.q (.l 0 3 1),.q (.l 0 155 0),yQ (iv T),.q (.l 0 155 0),.q (.l 0 3 1),.q (.k 1 3 0),.q (.l 0 155 0),.q (.l 0 3 1),.q (.k 1 9 1),.z 0]
theorem qw(h:Heap)(s:List UInt8)(x y:Hd)(xr yr:Option Addr)(xn yn:Nat)(n:Nat):∃ H,Fn n 112 [.string ⟨⟨s⟩⟩,ndV x xr xn,ndV y yr yn] h (z0_4 s h) H∧tw0 h h.fresh.wm (h.nx+4) H (H.get (h.nx+3)=some (.row 72 (ndL x xr xn++ndL y yr yn) 0 false)):=
 exV (kZ h) [aS 72 (ndL x xr xn),aS 72 (ndL y yr yn),aS 72 z72,.g 0 72 0 10,.g 1 72 0 10,aS 72 (ndL x xr xn++ndL y yr yn),.w 2 72 0 (z0_4 s h),.r 2 72 10] [3]
end
end Go.PanE
namespace Go.PanE
open Go.Proofs
/-- The object of the reference's parser. -/
structure QSt(m:Int)(h:Heap)(p b:Nat)(ts:List Tk)(E k d c w:Nat):Prop where
 gl:Gl m h
 p6:6≤p
 pp:h.get p=some (.row 160 [tsV b ts,iv ((k:Nat):Int),iv (E:Int),iv ((d:Nat):Int),iv ((c:Nat):Int),iv ((w:Nat):Int)] 0 false)
 tk:ts=[]∨h.get b=some (.row 199 (tkC ts) 4 false)
 kT:k≤ts.length
 tT:ts.length≤300
section
variable {m:Int} {h:Heap} {p b:Nat} {ts:List Tk} {E k d c w:Nat}
theorem QSt.lt(s:QSt m h p b ts E k d c w):p < h.nx:=Heap.lt_of_get s.pp
theorem QSt.bp(s:QSt m h p b ts E k d c w){x:List Value}{es:Nat}{ro:Bool}(h1:h.get b=some (.row 199 x es ro)):b≠p:=by
 rintro rfl
 have:=s.pp
 rw[h1] at this
 cases this
theorem QSt.fr{g:Heap}{k' d' c' w':Nat}(s:QSt m h p b ts E k d c w)(f:Fr h g p)(hp:g.get p=some (.row 160 [tsV b ts,iv ((k':Nat):Int),iv (E:Int),iv ((d':Nat):Int),iv ((c':Nat):Int),iv ((w':Nat):Int)] 0 false))(hk:k'≤ts.length):QSt m g p b ts E k' d' c' w':=
 ⟨s.gl.fr f s.p6,s.p6,hp,s.tk.imp id fun h1=>(f.get b (Heap.lt_of_get h1) (s.bp h1)).trans h1,hk,s.tT⟩
theorem QSt.keep{g:Heap}(s:QSt m h p b ts E k d c w)(hn:h.nx≤g.nx)(hg:∀ c,c < h.nx→g.get c=h.get c):QSt m g p b ts E k d c w:=
 s.fr ⟨hn,fun c hc _=>hg c hc⟩ ((hg p s.lt).trans s.pp) s.kT
theorem QSt.kp{g:Heap}(s:QSt m h p b ts E k d c w)(a:Kp h g):QSt m g p b ts E k d c w:=s.keep a.nx a.get
theorem QSt.wm{w0:Nat}(s:QSt m h p b ts E k d c w):QSt m {h with wm:=w0} p b ts E k d c w:=⟨⟨s.gl.nx,s.gl.get⟩,s.p6,s.pp,s.tk,s.kT,s.tT⟩
theorem QSt.fresh(s:QSt m h p b ts E k d c w):QSt m h.fresh p b ts E k d c w:=s.wm
theorem QSt.some_b(s:QSt m h p b ts E k d c w){i:Nat}(hi:i < ts.length):h.get b=some (.row 199 (tkC ts) 4 false):=by
 rcases s.tk with rfl|h1
 ·simp at hi
 ·exact h1
theorem QSt.pp'(s:QSt m h p b ts E k d c w){i:Nat}(hi:i < ts.length):h.get p=some (.row 160 [sv b 0 ts.length ts.length,iv ((k:Nat):Int),iv E,iv ((d:Nat):Int),iv ((c:Nat):Int),iv ((w:Nat):Int)] 0 false):=by
 rw[← tsV_some (b:=b) hi];exact s.pp
theorem QSt.get(_s:QSt m h p b ts E k d c w){i:Nat}(hi:i < ts.length):∃ x,ts[i]? =some x:=⟨ts[i],List.getElem?_eq_getElem hi⟩
theorem qsign_law(s:QSt m h p b ts E k d c w)(t:List UInt8)(n:Nat)(hn:1≤n):RD n 152 [pv p 0,.string ⟨⟨t⟩⟩] h=some (.bool (decide (c=0) && (sg ts [t] k).isSome),h):=by
 obtain⟨n,rfl⟩:∃ m,n=m+1:=⟨n - 1,by omega⟩
 have hT:=s.tT
 by_cases hc:c=0
 ·have ec:(((c:Nat):Int)==0)=true:=by rw[hc];rfl
  rw[decide_eq_true hc,Bool.true_and]
  unfold sg
  by_cases hk:k < ts.length
  ·obtain⟨x,hx⟩:=s.get hk
   have hbl:=Heap.lt_of_get (s.some_b hk)
   rw[hx]
   by_cases h4:x.k=4
   ·by_cases ht:x.t=t
    ·simp only[h4,ht,List.mem_singleton,and_self,if_true,Option.isSome_some]
     exact fin_old (qs_y h p b k ts.length E d c w t ts x n (s.pp' hk) (s.some_b hk) hx hk (by omega) s.lt hbl ec (lt_dec hk) (eqK (k:=4) h4) (by rw[beqL];exact decide_eq_true ht)) rfl
    ·simp only[h4,ht,List.mem_singleton,and_false,if_false,Option.isSome_none]
     exact fin_old (qs_n h p b k ts.length E d c w t ts x n (s.pp' hk) (s.some_b hk) hx hk (by omega) s.lt hbl ec (lt_dec hk) (eqK (k:=4) h4) (by rw[beqL];exact decide_eq_false ht)) rfl
   ·simp only[h4,false_and,if_false,Option.isSome_none]
    exact fin_old (qs_k h p b k ts.length E d c w t ts x n (s.pp' hk) (s.some_b hk) hx hk (by omega) s.lt hbl ec (lt_dec hk) (neK (k:=4) h4)) rfl
  ·rw[List.getElem?_eq_none (by omega)]
   exact fin_old (qs_e h p k ts.length E d c w (tsR b ts) t n s.pp ec (lt_dec' hk)) rfl
 ·rw[decide_eq_false hc,Bool.false_and]
  exact fin_old (qs_c h p k ts.length E d c w (tsR b ts) t n s.pp (neK (k:=0) hc)) rfl
theorem sg_mem{ops:List (List UInt8)}{s:List UInt8}(h1:sg ts ops k=some s):s∈ops∧sg ts [s] k=some s:=by
 unfold sg at h1 ⊢
 split at h1
 next x hx=>
  split at h1
  next hc=>
   simp only[Option.some.injEq] at h1
   subst h1
   exact⟨hc.2,by simp[hx,hc.1]⟩
  next=>cases h1
 next=>cases h1
theorem sg_cons{o:List UInt8}{ops:List (List UInt8)}:sg ts (o::ops) k=if(sg ts [o] k).isSome then some o else sg ts ops k:=by
 unfold sg
 cases hx:ts[k]? with
 |none=>simp
 |some x=>
  by_cases h4:x.k=4
  ·by_cases ht:x.t=o
   ·simp[h4,ht]
   ·by_cases hm:x.t∈ops <;>simp[h4,ht,hm]
  ·simp[h4]
theorem qo_loop{q es:Nat}{ops:List (List UInt8)}{ro:Bool}(s:QSt m h p b ts E k d c w)(hg:h.get q=some (.row 9 (ops.map fun s=>.string ⟨⟨s⟩⟩) es ro))(hl:ops.length≤100)(n:Nat)(hn:1≤n):∀ (r:List (List UInt8)) (i:Nat),ops.drop i=r→
  ∃ R,R≤r.length+1∧match(if c=0 then sg ts r k else none) with
   |some v=>Loops En (RD n) 22 5000 (sub [1,0,1,0,0] (bodyOf Tryz.f111)) [(0,pv p 0),(1,sv q 0 ops.length ops.length),(5,iv ((i:Nat):Int))] h .ret [(4,.string ⟨⟨v⟩⟩)] h R
   |none=>Loops En (RD n) 22 5000 (sub [1,0,1,0,0] (bodyOf Tryz.f111)) [(0,pv p 0),(1,sv q 0 ops.length ops.length),(5,iv ((i:Nat):Int))] h (.exit 0) [] h R:=by
 intro r
 induction r with
 |nil=>
  intro i hi
  have:ops.length≤i:=List.drop_eq_nil_iff.1 hi
  have e:(if c=0 then sg ts [] k else none)=none:=by
   split
   ·unfold sg;cases ts[k]? <;>simp
   ·rfl
  rw[e]
  exact⟨1,by omega,.out (qo_end h p q ops.length i n (lt_dec' (by omega)))⟩
 |cons o r ih=>
  intro i hi
  have hlt:i < ops.length:=by
   rcases Nat.lt_or_ge i ops.length with h1|h1
   ·exact h1
   ·rw[List.drop_eq_nil_of_le h1] at hi;cases hi
  have hs:ops[i]? =some o:=by
   have:=congrArg List.head? hi
   rw[List.head?_drop] at this
   exact this
  have hd:ops.drop (i+1)=r:=by rw[← List.drop_drop,hi];rfl
  have ld:=ops_ld hg hs
  have eq1:=qsign_law s o n hn
  rw[sg_cons]
  obtain⟨R,hR,hM⟩:=ih (i+1) hd
  by_cases hc:c=0
  ·rw[if_pos hc] at hM ⊢
   rw[decide_eq_true hc,Bool.true_and] at eq1
   cases hsg:(sg ts [o] k).isSome with
   |true=>
    rw[hsg] at eq1
    rw[if_pos rfl]
    exact⟨1,by omega,.ret (qo_hit h p q ops.length i ⟨⟨o⟩⟩ n hlt (by omega) (lt_dec hlt) ld eq1 ld)⟩
   |false=>
    rw[hsg] at eq1
    rw[if_neg (by decide)]
    have hb:=qo_on h p q ops.length i ⟨⟨o⟩⟩ n hlt (by omega) (lt_dec hlt) ld eq1
    refine⟨R+1,by simp only[List.length_cons];omega,?_⟩
    split at hM
    next v e=>exact .on hb hM
    next e=>exact .on hb hM
  ·rw[if_neg hc] at hM ⊢
   rw[decide_eq_false hc,Bool.false_and] at eq1
   have hb:=qo_on h p q ops.length i ⟨⟨o⟩⟩ n hlt (by omega) (lt_dec hlt) ld eq1
   exact⟨R+1,by simp only[List.length_cons];omega,.on hb hM⟩
theorem qone_law{q es:Nat}{ops:List (List UInt8)}{ro:Bool}(s:QSt m h p b ts E k d c w)(hg:h.get q=some (.row 9 (ops.map fun s=>.string ⟨⟨s⟩⟩) es ro))(hl:ops.length≤100)(n:Nat)(hn:2≤n):
  RD n 111 [pv p 0,sv q 0 ops.length ops.length] h=some (.string ⟨⟨(if c=0 then sg ts ops k else none).getD []⟩⟩,h):=by
 obtain⟨n,rfl⟩:∃ m,n=m+1:=⟨n - 1,by omega⟩
 obtain⟨R,hR,hM⟩:=qo_loop s.fresh (q:=q) (es:=es) (ro:=ro) hg hl n (by omega) ops 0 (List.drop_zero)
 split at hM
 next v e=>rw[e];exact fin_old (qo_p1 h p q ops.length ⟨⟨v⟩⟩ n (hM.fact' (by omega) ⟨by kernel_rfl,by kernel_rfl,by kernel_rfl,trivial⟩)) rfl
 next e=>rw[e];exact fin_old (qo_p2 h p q ops.length n (hM.fact' (by omega) ⟨by kernel_rfl,by kernel_rfl,by kernel_rfl,trivial⟩)) rfl
/-- A step that turns the parser's object alone. -/
structure Tn(m:Int)(h h':Heap)(p b:Nat)(ts:List Tk)(E k d c w:Nat):Prop where
 fr:Fr h h' p
 nx:h'.nx=h.nx
 wm:h'.wm≤h.wm
 st:QSt m h' p b ts E k d c w
theorem Tn.refl(s:QSt m h p b ts E k d c w):Tn m h h p b ts E k d c w:=⟨Fr.refl _ _,rfl,Nat.le_refl _,s⟩
theorem tn_of{k' d' c' w':Nat}(s:QSt m h p b ts E k d c w){X:Option (Value×Heap)}{v:Value}{H:Heap}(e:X=some (finish h v H))(g:∀ c,c < h.nx→c≠p→H.get c=h.get c)(nx:H.nx=h.nx)(wp:H.wm≤p)
  (gp:H.get p=some (.row 160 [tsV b ts,iv ((k':Nat):Int),iv (E:Int),iv ((d':Nat):Int),iv ((c':Nat):Int),iv ((w':Nat):Int)] 0 false)) (hk:k'≤ts.length):
  ∃ h',X=some (v,h')∧Tn m h h' p b ts E k' d' c' w'∧h'.wm≤p:=by
 have F:Fr h H p:=⟨by omega,g⟩
 exact⟨_,fin_wr e (by have:=s.lt;omega),⟨F.wm _,nx,Nat.min_le_left _ _,(s.fr F gp hk).wm⟩,Nat.le_trans (Nat.min_le_right _ _) wp⟩
theorem qbad_law(s:QSt m h p b ts E k d c w)(n:Nat)(hn:1≤n):∃ h',RD n 79 [pv p 0] h=some (.tuple #[],h')∧(if c=0 then Tn m h h' p b ts E k d 13 (place ts E k)∧h'.wm≤p else h'=h):=by
 obtain⟨n,rfl⟩:∃ m,n=m+1:=⟨n - 1,by omega⟩
 have hT:=s.tT
 by_cases hc:c=0
 ·have ec:(((c:Nat):Int) !=0)=false:=by rw[hc];rfl
  simp only[hc,if_true]
  by_cases hk:k < ts.length
  ·obtain⟨x,hx⟩:=s.get hk
   obtain⟨H,e,g,nx,wm,wp,gp⟩:=qb_in h p b k ts.length E d c w ts x n (s.pp' hk) (s.some_b hk) hx hk (by omega) s.lt (Heap.lt_of_get (s.some_b hk)) (s.bp (s.some_b hk)) ec (lt_dec hk)
   exact tn_of s e g nx wp (by rw[gp,tsV_some hk];unfold place;rw[hx];rfl) s.kT
  ·obtain⟨H,e,g,nx,wm,wp,gp⟩:=qb_e h p k ts.length E d c w (tsR b ts) n s.pp s.lt ec (lt_dec' hk)
   exact tn_of s e g nx wp (by rw[gp];unfold place;rw[List.getElem?_eq_none (by omega)];rfl) s.kT
 ·have ec:(((c:Nat):Int) !=0)=true:=by
   have:=neK (k:=0) hc
   show(!(((c:Nat):Int)==0))=true
   rw[show(((c:Nat):Int)==0)=false from this];rfl
  simp only[if_neg hc]
  exact⟨h,fin_old (qb_c h p k ts.length E d c w (tsR b ts) n s.pp ec) rfl,rfl⟩
theorem qinto_law(s:QSt m h p b ts E k d 0 0)(hd:d≤40)(n:Nat)(hn:1≤n):∃ h',h'.wm≤p∧(if 40≤d then RD n 208 [pv p 0] h=some (.bool false,h')∧Tn m h h' p b ts E k (d+1) 14 0 else RD n 208 [pv p 0] h=some (.bool true,h')∧Tn m h h' p b ts E k (d+1) 0 0):=by
 obtain⟨n,rfl⟩:∃ m,n=m+1:=⟨n - 1,by omega⟩
 by_cases hd':40≤d
 ·obtain⟨H,e,g,nx,wm,wp,gp⟩:=qi_bad h p k ts.length E d (tsR b ts) n s.pp s.lt (by omega) (decide_eq_true (by omega))
  obtain⟨h',e',T,w'⟩:=tn_of (d':=d+1) (c':=14) (w':=0) (k':=k) s e g nx wp gp s.kT
  exact⟨h',w',by rw[if_pos hd'];exact⟨e',T⟩⟩
 ·obtain⟨H,e,g,nx,wm,wp,gp⟩:=qi_ok h p k ts.length E d (tsR b ts) n s.pp s.lt (by omega) (decide_eq_false (by omega))
  obtain⟨h',e',T,w'⟩:=tn_of (d':=d+1) (c':=0) (w':=0) (k':=k) s e g nx wp gp s.kT
  exact⟨h',w',by rw[if_neg hd'];exact⟨e',T⟩⟩
theorem qopens_law(s:QSt m h p b ts E k d c w)(n:Nat)(hn:1≤n):RD n 240 [pv p 0] h=some (.bool (opens ts k),h):=by
 obtain⟨n,rfl⟩:∃ m,n=m+1:=⟨n - 1,by omega⟩
 have h3:=s.tT
 have hT:=s.kT
 by_cases hk:k+1 < ts.length
 ·obtain⟨x,hx⟩:=s.get hk
  have hd:decide (((k:Nat):Int)+1 < (ts.length:Int))=true:=decide_eq_true (by omega)
  unfold opens sg
  rw[hx]
  by_cases h4:x.k=4
  ·by_cases ht:x.t=[40]
   ·simp only[h4,ht,List.mem_singleton,and_self,if_true,Option.isSome_some]
    exact fin_old (qd_y h p b k ts.length E d c w ts x n (s.pp' hk) (s.some_b hk) hx hk (by omega) hd (by rw[h4];rfl) (by rw[ht];rfl)) rfl
   ·simp only[h4,ht,List.mem_singleton,and_false,if_false,Option.isSome_none]
    exact fin_old (qd_t h p b k ts.length E d c w ts x n (s.pp' hk) (s.some_b hk) hx hk (by omega) hd (by rw[h4];rfl) (by have:=beqL x.t [40];rw[decide_eq_false ht] at this;exact this)) rfl
  ·simp only[h4,false_and,if_false,Option.isSome_none]
   exact fin_old (qd_k h p b k ts.length E d c w ts x n (s.pp' hk) (s.some_b hk) hx hk (by omega) hd (by have:=eqN x.k 4;rw[decide_eq_false h4] at this;exact this)) rfl
 ·unfold opens sg
  rw[List.getElem?_eq_none (by omega)]
  exact fin_old (qd_end h p k ts.length E d c w (tsR b ts) n s.pp (by omega) (decide_eq_false (by omega))) rfl
theorem qclose_law(s:QSt m h p b ts E k d c w)(n:Nat)(hn:2≤n):∃ h',RD n 233 [pv p 0] h=some (.tuple #[],h')∧
  (if c=0 then h'.wm≤p∧(match sg ts [[41]] k with
   |some _=>Tn m h h' p b ts E (k+1) d c w
   |none=>Tn m h h' p b ts E k d 13 (place ts E k)) else h'=h):=by
 obtain⟨n,rfl⟩:∃ m,n=m+1:=⟨n - 1,by omega⟩
 have hT:=s.tT
 have hkT:=s.kT
 have e1:=qsign_law s.fresh [41] n (by omega)
 obtain⟨h2,e2,S2⟩:=qbad_law s.fresh n (by omega)
 by_cases hc:c=0
 ·simp only[if_pos hc] at S2 ⊢
  rw[decide_eq_true hc,Bool.true_and] at e1
  cases hs:sg ts [[41]] k with
  |some t=>
   rw[hs] at e1
   have:=sg_lt ts hs
   obtain⟨H,e,g,nx,wm,wp,gp⟩:=qc_yes h p k ts.length E d c w (tsR b ts) n s.pp s.lt (by omega) e1
   obtain⟨h',e',T,w'⟩:=tn_of (k':=k+1) s e g nx wp gp (by omega)
   exact⟨h',e',w',T⟩
  |none=>
   rw[hs] at e1
   obtain⟨T,wp⟩:=S2
   have F:Fr h h2 p:=⟨by have:=T.nx;show h.nx≤h2.nx;rw[this];exact Nat.le_refl _,T.fr.get⟩
   exact⟨_,fin_wr (qc_no h h2 p n e1 e2) (by have:=s.lt;omega),Nat.le_trans (Nat.min_le_right _ _) wp,F.wm _,T.nx,Nat.min_le_left _ _,T.st.wm⟩
 ·simp only[if_neg hc] at S2 ⊢
  rw[decide_eq_false hc,Bool.false_and] at e1
  subst S2
  exact⟨h,fin_old (qc_no h _ p n e1 e2) rfl,rfl⟩
theorem qpair_raw{x y:Hd}{xr yr:Option Addr}{xn yn:Nat}(s:List UInt8)(n:Nat)(hn:1≤n):
  ∃ h',RD n 112 [.string ⟨⟨s⟩⟩,ndV x xr xn,ndV y yr yn] h=some (ndV (hdOp 5 s) (some ⟨h.nx+3,0,none⟩) 2,h')∧Kp h h'∧h'.nx=h.nx+4∧h'.get (h.nx+3)=some (.row 72 (ndL x xr xn++ndL y yr yn) 0 false):=by
 obtain⟨n,rfl⟩:∃ m,n=m+1:=⟨n - 1,by omega⟩
 obtain⟨H,e,g,nx,wm,w⟩:=qw h s x y xr yr xn yn n
 have hlow:lowV h.nx 5 (.agg #[iv 5,iv 0,iv 0,.string ⟨#[]⟩,iv 0,iv 0,iv 0,iv 0,.string ⟨⟨s⟩⟩,sv (h.nx+3) 0 2 2])=false:=by
  simp[lowV,blt_false (Nat.le_add_right h.nx 3)]
 exact⟨_,fin_new e hlow,⟨by show h.nx≤H.nx;omega,g,Nat.min_le_left _ _⟩,nx,w⟩
theorem qpairC{P Q:Nat→Prop}{x y:Hd}{xr yr:Option Addr}{xn yn:Nat}{t u:Tr}{s:List UInt8}{h':Heap}(K:Kp h h')(w:h'.get (h.nx+3)=some (.row 72 (ndL x xr xn++ndL y yr yn) 0 false))(hx:NodeC h P x xr xn t)(hy:NodeC h P y yr yn u)(hPQ:∀ c,P c→c < h.nx→Q c)(hQ:Q (h.nx+3)):
  NodeC h' Q (hdOp 5 s) (some ⟨h.nx+3,0,none⟩) 2 (twoT s t u):=by
 have tr:∀ c o,P c→h.get c=some o→Q c∧h'.get c=some o:=fun c o hP e=>⟨hPQ c hP (Heap.lt_of_get e),(K.get c (Heap.lt_of_get e)).trans e⟩
 refine NodeC.mk (ts:=[t,u]) (es:=0) (ro:=false) (cs:=ndL x xr xn++ndL y yr yn) _ hQ w ?_
 unfold ArgsC
 refine⟨x,xr,xn,ndL y yr yn,rfl,hx.mono tr,?_⟩
 unfold ArgsC
 refine⟨y,yr,yn,[],by rw[List.append_nil],hy.mono tr,?_⟩
 unfold ArgsC;rfl
end
end Go.PanE
namespace Go.PanE
open Go.Proofs
noncomputable section
abbrev z2_1:List Value:=[.string ⟨#[61]⟩,.string ⟨#[60,62]⟩,.string ⟨#[60]⟩,.string ⟨#[60,61]⟩,.string ⟨#[62]⟩,.string ⟨#[62,61]⟩]
abbrev z2_2(r:Option Addr)(T k1 E d:Nat):AObj:=.row 160 [.slice r T T,iv (k1:Int),iv E,iv (d:Int),iv 0,iv 0] 0 false
abbrev z2_3:List Value:=[.string ⟨#[43]⟩,.string ⟨#[45]⟩,.string ⟨#[38]⟩]
abbrev z2_4:List Value:=[.string ⟨#[42]⟩,.string ⟨#[47]⟩,.string ⟨#[37]⟩]
abbrev z2_5(p B2 B3 i:Nat):List (Nat×Value):=[(0,pv p 0),(2,pv B2 0),(3,pv B3 0),(4,iv (i:Int))]
abbrev z2_6(r:Option Addr)(T k1 E d:Nat):List Value:=[.slice r T T,iv ((k1:Int)+1),iv E,iv (d:Int),iv 0,iv 0]
abbrev z2_7(h1:Heap)(x:Hd)(xr:Option Addr)(xn:Nat):Heap:=pt (al h1 72 z72) h1.nx 72 (ndL x xr xn)
abbrev z2_8(x:Hd)(xr:Option Addr)(xn:Nat):AObj:=.row 72 (ndL x xr xn) 0 false
abbrev z2_9(h2:Heap):Value:=.agg #[iv 4,iv 0,iv 0,.string ⟨#[]⟩,iv 0,iv 0,iv 0,iv 0,.string ⟨#[]⟩,sv (h2.nx+1) 0 1 1]
abbrev z2_10(k1:Nat):Value:=iv ((k1:Int)+1)
abbrev z2_11(r:Option Addr)(T k3 E d3 c3 w3:Nat):AObj:=.row 160 [.slice r T T,iv (k3:Int),iv E,iv (d3:Int),iv (c3:Int),iv (w3:Int)] 0 false
theorem qp_no(h h1:Heap)(p T E n:Nat)(x:Hd)(xr:Option Addr)(xn:Nat)(_hp:p < h.nx)(gh1_hnx:h1.get h.nx=some (.row 72 z72 0 false))(_lhnxh1:h.nx < h1.nx)(a0:RD n 207 [pv p 0] (al h.fresh 72 z72)=some (ndV x xr xn,h1))(a1:Pu n 152 [pv p 0,.string ⟨#[94]⟩] (.bool false) (z2_7 h1 x xr xn)):∃ H,Fn n 183 [pv p 0] h (ndV x xr xn) H∧tl1 h1 h1.wm h.nx (h1.nx+1) H:=
 exV (kZ h) [aS 72 z72,yC a0 (kI (ko gh1_hnx)),aS 72 z72,.w 1 72 0 (ndV x xr xn),yP a1,.g 1 72 0 10,.w 0 72 0 (ndV x xr xn),.r 0 72 10] []
theorem qp_dp(h h1 h2:Heap)(p T E k1 d n:Nat)(r:Option Addr)(x:Hd)(xr:Option Addr)(xn:Nat)(_hp:p < h.nx)(gh1_hnx:h1.get h.nx=some (.row 72 z72 0 false))(gh1_p:h1.get p=some (z2_2 r T k1 E d))(_lhnxh1:h.nx < h1.nx)(_lph1:p < h1.nx)(_hk:k1 < 1000)(gh2_hnx:h2.get h.nx=some (.row 72 z72 0 false))(gh2_h1nx:h2.get h1.nx=some (z2_8 x xr xn))(_lhnxh2:h.nx < h2.nx)(_lh1nxh2:h1.nx < h2.nx)(a0:RD n 207 [pv p 0] (al h.fresh 72 z72)=some (ndV x xr xn,h1))(a1:Pu n 152 [pv p 0,.string ⟨#[94]⟩] (.bool true) (z2_7 h1 x xr xn))(a2:RD n 208 [pv p 0] (pt (z2_7 h1 x xr xn) p 160 (z2_6 r T k1 E d))=some (.bool false,h2)):∃ H,Fn n 183 [pv p 0] h (ndV x xr xn) H∧tl1 h2 h2.wm h.nx h2.nx H:=
 exV (kZ h) [aS 72 z72,yC a0 (kI (ko gh1_p)),aS 72 z72,.w 1 72 0 (ndV x xr xn),yP a1,.l 0 3 1,yW ((k1:Int)+1),.w 0 3 1 (z2_10 k1),yC a2 (kJ (ko gh2_h1nx) (ko gh2_hnx)),.g 0 72 0 10,.w 1 72 0 (ndV x xr xn),.r 1 72 10] []
theorem qp_ok(h h1 h2 h3 h4:Heap)(p T E k1 d k3 d3 c3 w3 n:Nat)(r:Option Addr)(x:Hd)(xr:Option Addr)(xn:Nat)(y:Hd)(yr:Option Addr)(yn:Nat)(w:Hd)(wr:Option Addr)(wn:Nat)(_hp:p < h.nx)(gh1_hnx:h1.get h.nx=some (.row 72 z72 0 false))(gh1_p:h1.get p=some (z2_2 r T k1 E d))(_lhnxh1:h.nx < h1.nx)(_lph1:p < h1.nx)(_hk:k1 < 1000)(gh3_hnx:h3.get h.nx=some (.row 72 z72 0 false))(gh3_h1nx:h3.get h1.nx=some (z2_8 x xr xn))(gh3_p:h3.get p=some (z2_11 r T k3 E d3 c3 w3))(_lhnxh3:h.nx < h3.nx)(_lh1nxh3:h1.nx < h3.nx)(_lph3:p < h3.nx)(gh4_hnx:h4.get h.nx=some (.row 72 z72 0 false))(_lhnxh4:h.nx < h4.nx)(_hd3:d3 < 1000)(a0:RD n 207 [pv p 0] (al h.fresh 72 z72)=some (ndV x xr xn,h1))(a1:Pu n 152 [pv p 0,.string ⟨#[94]⟩] (.bool true) (z2_7 h1 x xr xn))(a2:RD n 208 [pv p 0] (pt (z2_7 h1 x xr xn) p 160 (z2_6 r T k1 E d))=some (.bool true,h2))(a3:RD n 183 [pv p 0] h2=some (ndV y yr yn,h3))(a4:RD n 112 [.string ⟨#[94]⟩,ndV x xr xn,ndV y yr yn] (pt (pt (al h3 72 z72) h3.nx 72 (ndL y yr yn)) p 160 [.slice r T T,iv (k3:Int),iv E,iv ((d3:Int) - 1),iv (c3:Int),iv (w3:Int)])=some (ndV w wr wn,h4)):∃ H,Fn n 183 [pv p 0] h (ndV w wr wn) H∧tl1 h4 h4.wm h.nx h4.nx H:=
 exV (kZ h) [aS 72 z72,yC a0 (kI (ko gh1_p)),aS 72 z72,.w 1 72 0 (ndV x xr xn),yP a1,.l 0 3 1,yW ((k1:Int)+1),.w 0 3 1 (z2_10 k1),yC a2 (kZ h2),yC a3 (kJ (ko gh3_p) (ko gh3_h1nx)),aS 72 z72,.w 2 72 0 (ndV y yr yn),.l 0 3 3,yW ((d3:Int) - 1),.w 0 3 3 (iv ((d3:Int) - 1)),.g 1 72 0 10,.g 2 72 0 10,yC a4 (kI (ko gh4_hnx)),.w 0 72 0 (ndV w wr wn),.r 0 72 10] []
theorem qu_pt(h h1:Heap)(p T E n:Nat)(x:Hd)(xr:Option Addr)(xn:Nat)(_hp:p < h.nx)(gh1_hnx:h1.get h.nx=some (.row 72 z72 0 false))(_lhnxh1:h.nx < h1.nx)(a0:Pu n 152 [pv p 0,.string ⟨#[45]⟩] (.bool false) (al h.fresh 72 z72))(a1:RD n 225 [pv p 0] (al h.fresh 72 z72)=some (ndV x xr xn,h1)):∃ H,Fn n 207 [pv p 0] h (ndV x xr xn) H∧tl1 h1 h1.wm h.nx h1.nx H:=
 exV (kZ h) [aS 72 z72,yP a0,yC a1 (kI (ko gh1_hnx)),.w 0 72 0 (ndV x xr xn),.r 0 72 10] []
theorem qu_dp(h h1:Heap)(p T E k d n:Nat)(r:Option Addr)(hp:h.get p=some (.row 160 [.slice r T T,iv (k:Int),iv E,iv (d:Int),iv 0,iv 0] 0 false))(_hp:p < h.nx)(_hk:k < 1000)(gh1_hnx:h1.get h.nx=some (.row 72 z72 0 false))(_lhnxh1:h.nx < h1.nx)(a0:Pu n 152 [pv p 0,.string ⟨#[45]⟩] (.bool true) (al h.fresh 72 z72))(a1:RD n 208 [pv p 0] (pt (al h.fresh 72 z72) p 160 [.slice r T T,iv ((k:Int)+1),iv E,iv (d:Int),iv 0,iv 0])=some (.bool false,h1)):∃ H,Fn n 207 [pv p 0] h (z72V) H∧tl1 h1 h1.wm h.nx h1.nx H:=
 exV (kI (ko hp)) [aS 72 z72,yP a0,.l 0 3 1,yW ((k:Int)+1),.w 0 3 1 (iv ((k:Int)+1)),yC a1 (kI (ko gh1_hnx)),.w 0 72 0 (z72V),.r 0 72 10] []
theorem qu_ok(h h1 h2:Heap)(p T E k d k3 d3 c3 w3 n:Nat)(r:Option Addr)(x:Hd)(xr:Option Addr)(xn:Nat)(hp:h.get p=some (.row 160 [.slice r T T,iv (k:Int),iv E,iv (d:Int),iv 0,iv 0] 0 false))(_hp:p < h.nx)(_hk:k < 1000)(gh2_hnx:h2.get h.nx=some (.row 72 z72 0 false))(gh2_p:h2.get p=some (z2_11 r T k3 E d3 c3 w3))(_lhnxh2:h.nx < h2.nx)(_lph2:p < h2.nx)(_hd3:d3 < 1000)(a0:Pu n 152 [pv p 0,.string ⟨#[45]⟩] (.bool true) (al h.fresh 72 z72))(a1:RD n 208 [pv p 0] (pt (al h.fresh 72 z72) p 160 [.slice r T T,iv ((k:Int)+1),iv E,iv (d:Int),iv 0,iv 0])=some (.bool true,h1))(a2:RD n 207 [pv p 0] h1=some (ndV x xr xn,h2)):∃ H,Fn n 207 [pv p 0] h (z2_9 h2) H∧tw2 h2 h2.wm h.nx p (h2.nx+2) H (H.get (h2.nx+1)=some (z2_8 x xr xn)∧H.get p=some (.row 160 [.slice r T T,iv (k3:Int),iv E,iv ((d3:Int) - 1),iv (c3:Int),iv (w3:Int)] 0 false)):=
 exV (kI (ko hp)) [aS 72 z72,yP a0,.l 0 3 1,yW ((k:Int)+1),.w 0 3 1 (iv ((k:Int)+1)),yC a1 (kZ h1),yC a2 (kJ (ko gh2_p) (ko gh2_hnx)),aS 72 z72,.w 2 72 0 (ndV x xr xn),.l 0 3 3,yW ((d3:Int) - 1),.w 0 3 3 (iv ((d3:Int) - 1)),.g 2 72 0 10,aS 72 (ndL x xr xn),.w 1 72 0 (z2_9 h2),.r 1 72 10] [3,0]
theorem qfo_no(h h1:Heap)(p T E n:Nat)(x:Hd)(xr:Option Addr)(xn:Nat)(_hp:p < h.nx)(gh1_hnx:h1.get h.nx=some (.row 72 z72 0 false))(_lhnxh1:h.nx < h1.nx)(a0:RD n 110 [pv p 0] (al h.fresh 72 z72)=some (ndV x xr xn,h1))(a1:Pu n 111 [pv p 0,sv (h1.nx+1) 0 6 6] (.string ⟨#[]⟩) (al (z2_7 h1 x xr xn) 9 z2_1)):∃ H,Fn n 78 [pv p 0] h (ndV x xr xn) H∧tl1 h1 h1.wm h.nx (h1.nx+2) H:=
 exV (kZ h) [aS 72 z72,yC a0 (kI (ko gh1_hnx)),aS 72 z72,.w 1 72 0 (ndV x xr xn),aS 9 z2_1,yP a1,bF,.g 1 72 0 10,.w 0 72 0 (ndV x xr xn),.r 0 72 10] []
theorem qfo_ok(h h1 h2 h3:Heap)(p T E k1 d n:Nat)(s:List UInt8)(r:Option Addr)(x:Hd)(xr:Option Addr)(xn:Nat)(y:Hd)(yr:Option Addr)(yn:Nat)(w:Hd)(wr:Option Addr)(wn:Nat)(_hp:p < h.nx)(gh1_hnx:h1.get h.nx=some (.row 72 z72 0 false))(gh1_p:h1.get p=some (z2_2 r T k1 E d))(_lhnxh1:h.nx < h1.nx)(_lph1:p < h1.nx)(_hk:k1 < 1000)(gh2_h1nx:h2.get h1.nx=some (z2_8 x xr xn))(_lh1nxh2:h1.nx < h2.nx)(gh3_hnx:h3.get h.nx=some (.row 72 z72 0 false))(_lhnxh3:h.nx < h3.nx)(a0:RD n 110 [pv p 0] (al h.fresh 72 z72)=some (ndV x xr xn,h1))(a1:Pu n 111 [pv p 0,sv (h1.nx+1) 0 6 6] (.string ⟨⟨s⟩⟩) (al (z2_7 h1 x xr xn) 9 z2_1))(a2:(!bqS ⟨⟨s⟩⟩ ⟨#[]⟩)=true)(a3:RD n 110 [pv p 0] (pt (al (z2_7 h1 x xr xn) 9 z2_1) p 160 (z2_6 r T k1 E d))=some (ndV y yr yn,h2))(a4:RD n 112 [.string ⟨⟨s⟩⟩,ndV x xr xn,ndV y yr yn] h2=some (ndV w wr wn,h3)):∃ H,Fn n 78 [pv p 0] h (ndV w wr wn) H∧tl1 h3 h3.wm h.nx h3.nx H:=
 exV (kZ h) [aS 72 z72,yC a0 (kI (ko gh1_p)),aS 72 z72,.w 1 72 0 (ndV x xr xn),aS 9 z2_1,yP a1,yT a2,.l 0 3 1,yW ((k1:Int)+1),.w 0 3 1 (z2_10 k1),.g 1 72 0 10,yC a3 (kI (ko gh2_h1nx)),yC a4 (kI (ko gh3_hnx)),.w 0 72 0 (ndV w wr wn),yN (h1.nx+2),.j 5,.q (.g 1 72 0 10),.j 6,.q (.g 0 72 0 10),.j 8,.r 0 72 10] []
theorem qa_no(h:Heap)(p B2 B3 i n:Nat)(x:Hd)(xr:Option Addr)(xn:Nat)(g3:h.get B3=some (z2_8 x xr xn))(_l3:B3 < h.nx)(_hi:i < 400)(a0:decide (((i:Int):Int) < 400)=true)(a1:Pu n 111 [pv p 0,sv h.nx 0 3 3] (.string ⟨#[]⟩) (al h 9 z2_3)):∃ H,Bd n 30 [1,1,0,1,0,0] Tryz.f110 (z2_5 p B2 B3 i) h (.exit 0) [(2,pv B2 0),(3,pv B3 0)] H∧tl0 h h.wm (h.nx+1) H:=
 bdE (kZ h) [yT a0,aS 9 z2_3,yP a1,bT,.z 0] []
theorem qa_end(h:Heap)(p B2 B3 i n:Nat)(a0:decide (((i:Int):Int) < 400)=false):Bd n 30 [1,1,0,1,0,0] Tryz.f110 (z2_5 p B2 B3 i) h (.exit 0) [(2,pv B2 0),(3,pv B3 0)] h:=
 bdF (kZ h) [yF a0,.z 0]
theorem qa_on(h h2 h3:Heap)(p T E k1 d B2 B3 i n:Nat)(s:List UInt8)(r:Option Addr)(x:Hd)(xr:Option Addr)(xn:Nat)(y:Hd)(yr:Option Addr)(yn:Nat)(w:Hd)(wr:Option Addr)(wn:Nat)(g3:h.get B3=some (z2_8 x xr xn))(_l3:B3 < h.nx)(_hi:i < 400)(hp:h.get p=some (z2_2 r T k1 E d))(_lp:p < h.nx)(_hk:k1 < 1000)(_hpB:p≠B3)(gh2_B3:h2.get B3=some (z2_8 x xr xn))(_lB3h2:B3 < h2.nx)(gh3_B3:h3.get B3=some (z2_8 x xr xn))(_lB3h3:B3 < h3.nx)(a0:decide (((i:Int):Int) < 400)=true)(a1:Pu n 111 [pv p 0,sv h.nx 0 3 3] (.string ⟨⟨s⟩⟩) (al h 9 z2_3))(a2:bqS ⟨⟨s⟩⟩ ⟨#[]⟩=false)(a3:RD n 151 [pv p 0] (pt (al h 9 z2_3) p 160 (z2_6 r T k1 E d))=some (ndV y yr yn,h2))(a4:RD n 112 [.string ⟨⟨s⟩⟩,ndV x xr xn,ndV y yr yn] h2=some (ndV w wr wn,h3)):∃ H,Bd n 30 [1,1,0,1,0,0] Tryz.f110 (z2_5 p B2 B3 i) h .normal [(0,pv p 0),(2,pv B2 0),(3,pv B3 0),(4,iv ((i:Int)+1))] H∧tw1 h3 h3.wm B3 h3.nx H (H.get B3=some (.row 72 (ndL w wr wn) 0 false)):=
 bdE (kJ (ko hp) (ko g3)) [yT a0,aS 9 z2_3,yP a1,yF a2,.l 0 3 1,yW ((k1:Int)+1),.w 0 3 1 (z2_10 k1),.g 1 72 0 10,yC a3 (kI (ko gh2_B3)),yC a4 (kI (ko gh3_B3)),.w 0 72 0 (ndV w wr wn),yN (h.nx+1),.j 1,.q (.g 1 72 0 10),.j 2,.q (.g 0 72 0 10),.j 4,yW ((i:Int)+1),.z 0] [0]
theorem qa_fn(h h1 hL:Heap)(p n:Nat)(x:Hd)(xr:Option Addr)(xn:Nat)(y:Hd)(yr:Option Addr)(yn:Nat)(gh1_hnx:h1.get h.nx=some (.row 72 z72 0 false))(_lhnxh1:h.nx < h1.nx)(ghL_h1nx:hL.get h1.nx=some (.row 72 (ndL y yr yn) 0 false))(ghL_hnx:hL.get h.nx=some (.row 72 z72 0 false))(_lhnxhL:h.nx < hL.nx)(a0:RD n 151 [pv p 0] (al h.fresh 72 z72)=some (ndV x xr xn,h1))(a1:Lf n 30 [1,1,0,1,0,0] Tryz.f110 [(0,pv p 0),(2,pv h.nx 0),(6,pv p 0),(7,ndV x xr xn),(3,pv h1.nx 0),(4,iv 0)] (z2_7 h1 x xr xn) (.exit 0) [(2,pv h.nx 0),(3,pv h1.nx 0)] hL):∃ H,Fn n 110 [pv p 0] h (ndV y yr yn) H∧tl1 hL hL.wm h.nx hL.nx H:=
 exV (kZ h) [aS 72 z72,yC a0 (kZ h1),aS 72 z72,.w 0 72 0 (ndV x xr xn),yS a1 (kJ (ko ghL_h1nx) (ko ghL_hnx)),.g 0 72 0 10,.w 1 72 0 (ndV y yr yn),.r 1 72 10] []
theorem qm_no(h:Heap)(p B2 B3 i n:Nat)(x:Hd)(xr:Option Addr)(xn:Nat)(g3:h.get B3=some (z2_8 x xr xn))(_l3:B3 < h.nx)(_hi:i < 400)(a0:decide (((i:Int):Int) < 400)=true)(a1:Pu n 111 [pv p 0,sv h.nx 0 3 3] (.string ⟨#[]⟩) (al h 9 z2_4)):∃ H,Bd n 30 [1,1,0,1,0,0] Tryz.f151 (z2_5 p B2 B3 i) h (.exit 0) [(2,pv B2 0),(3,pv B3 0)] H∧tl0 h h.wm (h.nx+1) H:=
 bdE (kZ h) [yT a0,aS 9 z2_4,yP a1,bT,.z 0] []
theorem qm_end(h:Heap)(p B2 B3 i n:Nat)(a0:decide (((i:Int):Int) < 400)=false):Bd n 30 [1,1,0,1,0,0] Tryz.f151 (z2_5 p B2 B3 i) h (.exit 0) [(2,pv B2 0),(3,pv B3 0)] h:=
 bdF (kZ h) [yF a0,.z 0]
theorem qm_on(h h2 h3:Heap)(p T E k1 d B2 B3 i n:Nat)(s:List UInt8)(r:Option Addr)(x:Hd)(xr:Option Addr)(xn:Nat)(y:Hd)(yr:Option Addr)(yn:Nat)(w:Hd)(wr:Option Addr)(wn:Nat)(g3:h.get B3=some (z2_8 x xr xn))(_l3:B3 < h.nx)(_hi:i < 400)(hp:h.get p=some (z2_2 r T k1 E d))(_lp:p < h.nx)(_hk:k1 < 1000)(_hpB:p≠B3)(gh2_B3:h2.get B3=some (z2_8 x xr xn))(_lB3h2:B3 < h2.nx)(gh3_B3:h3.get B3=some (z2_8 x xr xn))(_lB3h3:B3 < h3.nx)(a0:decide (((i:Int):Int) < 400)=true)(a1:Pu n 111 [pv p 0,sv h.nx 0 3 3] (.string ⟨⟨s⟩⟩) (al h 9 z2_4))(a2:bqS ⟨⟨s⟩⟩ ⟨#[]⟩=false)(a3:RD n 183 [pv p 0] (pt (al h 9 z2_4) p 160 (z2_6 r T k1 E d))=some (ndV y yr yn,h2))(a4:RD n 112 [.string ⟨⟨s⟩⟩,ndV x xr xn,ndV y yr yn] h2=some (ndV w wr wn,h3)):∃ H,Bd n 30 [1,1,0,1,0,0] Tryz.f151 (z2_5 p B2 B3 i) h .normal [(0,pv p 0),(2,pv B2 0),(3,pv B3 0),(4,iv ((i:Int)+1))] H∧tw1 h3 h3.wm B3 h3.nx H (H.get B3=some (.row 72 (ndL w wr wn) 0 false)):=
 bdE (kJ (ko hp) (ko g3)) [yT a0,aS 9 z2_4,yP a1,yF a2,.l 0 3 1,yW ((k1:Int)+1),.w 0 3 1 (z2_10 k1),.g 1 72 0 10,yC a3 (kI (ko gh2_B3)),yC a4 (kI (ko gh3_B3)),.w 0 72 0 (ndV w wr wn),yN (h.nx+1),.j 1,.q (.g 1 72 0 10),.j 2,.q (.g 0 72 0 10),.j 4,yW ((i:Int)+1),.z 0] [0]
theorem qm_fn(h h1 hL:Heap)(p n:Nat)(x:Hd)(xr:Option Addr)(xn:Nat)(y:Hd)(yr:Option Addr)(yn:Nat)(gh1_hnx:h1.get h.nx=some (.row 72 z72 0 false))(_lhnxh1:h.nx < h1.nx)(ghL_h1nx:hL.get h1.nx=some (.row 72 (ndL y yr yn) 0 false))(ghL_hnx:hL.get h.nx=some (.row 72 z72 0 false))(_lhnxhL:h.nx < hL.nx)(a0:RD n 183 [pv p 0] (al h.fresh 72 z72)=some (ndV x xr xn,h1))(a1:Lf n 30 [1,1,0,1,0,0] Tryz.f151 [(0,pv p 0),(2,pv h.nx 0),(6,pv p 0),(7,ndV x xr xn),(3,pv h1.nx 0),(4,iv 0)] (z2_7 h1 x xr xn) (.exit 0) [(2,pv h.nx 0),(3,pv h1.nx 0)] hL):∃ H,Fn n 151 [pv p 0] h (ndV y yr yn) H∧tl1 hL hL.wm h.nx hL.nx H:=
 exV (kZ h) [aS 72 z72,yC a0 (kZ h1),aS 72 z72,.w 0 72 0 (ndV x xr xn),yS a1 (kJ (ko ghL_h1nx) (ko ghL_hnx)),.g 0 72 0 10,.w 1 72 0 (ndV y yr yn),.r 1 72 10] []
end
end Go.PanE
