/-
 Part 31 of the proof of Rows.DumpReadsCardSaid: The parser of the first text, cells, names and parts: paths printed by sx.py (m13.py).
 The parser of the first text: cells, names, parts. No conditions but what addr.Parse makes of a name.
-/
import Derived.Test.YtihkphfmnnndfaaGreatDoorT30
namespace Go.PanE
open Go.Proofs
noncomputable section
abbrev y9_13:List Value:=[iv 0,iv 0,.string ⟨#[]⟩,iv 0]
abbrev y9_1(h:Heap)(x:Tk):Heap:=pt (pt (reserve 1 (al h.fresh 72 z72)) (h.nx+1) 199 y9_13) (h.nx+1) 199 [iv (x.k:Int),iv (x.n:Int),.string ⟨⟨x.t⟩⟩,iv (x.at_:Int)]
abbrev y9_2(x:Tk):Value:=.agg #[iv (x.k:Int),iv (x.n:Int),.string ⟨⟨x.t⟩⟩,iv (x.at_:Int)]
abbrev y9_3(b T k E:Nat):AObj:=.row 274 [sv b 0 T T,iv (k:Int),iv E] 0 false
abbrev y9_4(p d:Nat)(t:List UInt8):List Value:=[pv p 0,iv (d:Int),.string ⟨⟨t⟩⟩]
abbrev y9_5:List Value:=[iv 0,iv 0,.string ⟨#[]⟩]
abbrev y9_6(q:Nat):Value:=.tuple #[z72V,.iface 242 (pv q 0)]
abbrev y9_7:Value:=.agg #[iv 4,iv 7,.string ⟨#[]⟩]
abbrev y9_8(ts:List Tk):AObj:=.row 199 (tkC ts) 4 false
abbrev y9_9(p d:Nat):List Value:=[pv p 0,iv (d:Int)]
abbrev y9_10(h:Heap)(a c ua uc:Nat):Heap:=al (al (al h.fresh 29 [iv (a:Int),iv (c:Int)]) 29 [iv (ua:Int),iv (uc:Int)]) 43 [iv 0,iv 0,iv 0,iv 0]
abbrev y9_11(h:Heap):Heap:=al h.fresh 29 [iv 0,iv 0]
abbrev y9_12(q:Nat):Value:=.tuple #[.agg #[iv 0,iv 0],.iface 242 (pv q 0)]
abbrev y9_14(h1:Heap)(a c:Int):Heap:=al (pt (al h1 29 [iv 0,iv 0]) h1.nx 29 [iv a,iv c]) 9 [.string ⟨#[58]⟩]
abbrev y9_15(r:Option Addr)(T k E:Nat):AObj:=.row 274 [.slice r T T,iv (k:Int),iv E] 0 false
abbrev y9_16:AObj:=.row 29 [iv 0,iv 0] 0 false
abbrev y9_17(b T k E:Nat):AObj:=.row 274 [sv b 0 T T,iv ((k:Int)+1),iv E] 0 false
abbrev y9_18(k:Nat):Value:=iv ((k:Int)+1)
abbrev y9_19(h:Heap)(x:Tk):Heap:=al (y9_1 h x) 9 [.string ⟨#[40]⟩]
abbrev y9_20:List Value:=[iv 4,iv 7,.string ⟨#[]⟩]
theorem ce_end(h h1:Heap)(p k T E q:Nat)(r:Option Addr)(n:Nat)(hp:h.get p=some (y9_15 r T k E))(_hl:p < h.nx)(gh1_hnx:h1.get h.nx=some y9_16)(_lhnxh1:h.nx < h1.nx)(a0:decide (((k:Int):Int) < T)=false)(a1:RD n 177 [pv p 0] (y9_11 h)=some (.iface 242 (pv q 0),h1)):∃ H,Fn n 254 [pv p 0] h (y9_12 q) H∧tl1 h1 h1.wm h.nx h1.nx H:=
 exT (kI (ko hp)) [aS 29 [iv 0,iv 0],.l 0 3 1,.l 0 155 0,yF a0,yN (h.nx+1),.q (.l 0 3 1),.q (.l 0 155 0),yQ (iv T),yC a1 (kI (ko gh1_hnx)),.w 0 29 0 (.agg #[iv 0,iv 0]),.r 0 29 2,.z 1] []
theorem ce_k(h h1:Heap)(p b k T E q:Nat)(ts:List Tk)(x:Tk)(n:Nat)(hp:h.get p=some (y9_3 b T k E))(hb:h.get b=some (y9_8 ts))(hx:ts[k]? =some x)(_h1:k < T)(_h2:T < 4611686018427387904)(_hl:p < h.nx)(_hb:b < h.nx)(gh1_hnx:h1.get h.nx=some y9_16)(_lhnxh1:h.nx < h1.nx)(a0:decide (((k:Int):Int) < T)=true)(a1:(((x.k:Int):Int)==3)=false)(a2:RD n 177 [pv p 0] (y9_11 h)=some (.iface 242 (pv q 0),h1)):∃ H,Fn n 254 [pv p 0] h (y9_12 q) H∧tl1 h1 h1.wm h.nx h1.nx H:=
 exT (kJ (ko hp) (kx hb hx)) [aS 29 [iv 0,iv 0],.l 0 3 1,.l 0 155 0,yT a0,.l 0 155 0,.l 0 3 1,iA 155 199 4 b T k,.k 1 3 0,yF a1,yN (h.nx+1),.q (.l 0 3 1),.q (.l 0 155 0),yQ (iv T),.q (.l 0 155 0),.q (.l 0 3 1),.q (.k 1 3 0),yC a2 (kI (ko gh1_hnx)),.w 0 29 0 (.agg #[iv 0,iv 0]),.r 0 29 2,.z 1] []
theorem ce_op(h h1:Heap)(p b k T E q:Nat)(ts:List Tk)(x:Tk)(n:Nat)(hp:h.get p=some (y9_3 b T k E))(hb:h.get b=some (y9_8 ts))(hx:ts[k]? =some x)(_h1:k < T)(_h2:T < 4611686018427387904)(_hl:p < h.nx)(_hb:b < h.nx)(gh1_hnx:h1.get h.nx=some y9_16)(_lhnxh1:h.nx < h1.nx)(a0:decide (((k:Int):Int) < T)=true)(a1:(((x.k:Int):Int)==3)=true)(a2:Pu n 252 [pv p 0] (.bool true) (y9_11 h))(a3:RD n 177 [pv p 0] (y9_11 h)=some (.iface 242 (pv q 0),h1)):∃ H,Fn n 254 [pv p 0] h (y9_12 q) H∧tl1 h1 h1.wm h.nx h1.nx H:=
 exT (kJ (ko hp) (kx hb hx)) [aS 29 [iv 0,iv 0],.l 0 3 1,.l 0 155 0,yT a0,.l 0 155 0,.l 0 3 1,iA 155 199 4 b T k,.k 1 3 0,yT a1,yP a2,yN (h.nx+1),.q (.l 0 3 1),.q (.l 0 155 0),yQ (iv T),.q (.l 0 155 0),.q (.l 0 3 1),.q (.k 1 3 0),yC a3 (kI (ko gh1_hnx)),.w 0 29 0 (.agg #[iv 0,iv 0]),.r 0 29 2,.z 1] []
theorem ce_no(h h1:Heap)(p b k T E q:Nat)(a c:Int)(ts:List Tk)(x:Tk)(n:Nat)(hp:h.get p=some (y9_3 b T k E))(hb:h.get b=some (y9_8 ts))(hx:ts[k]? =some x)(_h1:k < T)(_h2:T < 4611686018427387904)(_hl:p < h.nx)(_hb:b < h.nx)(gh1_hnx:h1.get h.nx=some y9_16)(_lhnxh1:h.nx < h1.nx)(a0:decide (((k:Int):Int) < T)=true)(a1:(((x.k:Int):Int)==3)=true)(a2:Pu n 252 [pv p 0] (.bool false) (y9_11 h))(a3:Pu n 28 [.string ⟨⟨x.t⟩⟩] (.tuple #[.agg #[iv a,iv c],.bool false]) (reserve 1 (y9_11 h)))(a4:RD n 177 [pv p 0] (pt (pt (reserve 1 (y9_11 h)) (h.nx+1) 29 [iv 0,iv 0]) (h.nx+1) 29 [iv a,iv c])=some (.iface 242 (pv q 0),h1)):∃ H,Fn n 254 [pv p 0] h (y9_12 q) H∧tl1 h1 h1.wm h.nx h1.nx H:=
 exT (kJ (ko hp) (kx hb hx)) [aS 29 [iv 0,iv 0],.l 0 3 1,.l 0 155 0,yT a0,.l 0 155 0,.l 0 3 1,iA 155 199 4 b T k,.k 1 3 0,yT a1,yP a2,yN (h.nx+1),.q (.l 0 3 1),.q (.l 0 155 0),yQ (iv T),.q (.l 0 155 0),.q (.l 0 3 1),.q (.k 1 3 0),.v 1,.l 0 155 0,.l 0 3 1,iA 155 199 4 b T k,.k 1 9 1,yP a3,bS 0 29 [iv 0,iv 0],.w 3 29 0 (.agg #[iv a,iv c]),yN (h.nx+2),.j 1,.q (.l 0 155 0),.q (.l 0 3 1),.q (.k 1 9 1),.j 3,yC a4 (kI (ko gh1_hnx)),.w 0 29 0 (.agg #[iv 0,iv 0]),.r 0 29 2,.z 1] []
theorem ce_ok(h:Heap)(p b k T E:Nat)(a c:Int)(ts:List Tk)(x:Tk)(n:Nat)(hp:h.get p=some (y9_3 b T k E))(hb:h.get b=some (y9_8 ts))(hx:ts[k]? =some x)(_h1:k < T)(_h2:T < 4611686018427387904)(_hl:p < h.nx)(_hb:b < h.nx)(_hpb:b≠p)(a0:decide (((k:Int):Int) < T)=true)(a1:(((x.k:Int):Int)==3)=true)(a2:Pu n 252 [pv p 0] (.bool false) (y9_11 h))(a3:Pu n 28 [.string ⟨⟨x.t⟩⟩] (.tuple #[.agg #[iv a,iv c],.bool true]) (reserve 1 (y9_11 h))):∃ H,Fn n 254 [pv p 0] h (.tuple #[.agg #[iv a,iv c],.nilIface]) H∧tw1 h h.fresh.wm p (h.nx+2) H (H.get p=some (y9_17 b T k E)):=
 exT (kJ (ko hp) (kx hb hx)) [aS 29 [iv 0,iv 0],.l 0 3 1,.l 0 155 0,yT a0,.l 0 155 0,.l 0 3 1,iA 155 199 4 b T k,.k 1 3 0,yT a1,yP a2,yN (h.nx+1),.q (.l 0 3 1),.q (.l 0 155 0),yQ (iv T),.q (.l 0 155 0),.q (.l 0 3 1),.q (.k 1 3 0),.v 1,.l 0 155 0,.l 0 3 1,iA 155 199 4 b T k,.k 1 9 1,yP a3,bS 0 29 [iv 0,iv 0],.w 3 29 0 (.agg #[iv a,iv c]),yN (h.nx+2),.j 1,.q (.l 0 155 0),.q (.l 0 3 1),.q (.k 1 9 1),.j 3,.l 0 3 1,yW ((k:Int)+1),.w 0 3 1 (y9_18 k),.g 3 29 0 2,.w 2 29 0 (.agg #[iv a,iv c]),.r 2 29 2,.z 1] [0]
theorem na_c(h h1:Heap)(p d n:Nat)(t:List UInt8)(x:Hd)(xr:Option Addr)(xn:Nat)(gh1_hnx:h1.get h.nx=some (.row 72 z72 0 false))(_lhnxh1:h.nx < h1.nx)(a0:Pu n 252 [pv p 0] (.bool true) (al h.fresh 72 z72))(a1:RD n 253 (y9_4 p d t) (al h.fresh 72 z72)=some (.tuple #[ndV x xr xn,.nilIface],h1)):∃ H,Fn n 250 (y9_4 p d t) h (.tuple #[ndV x xr xn,.nilIface]) H∧tl1 h1 h1.wm h.nx h1.nx H:=
 exT (kZ h) [aS 72 z72,yP a0,yC a1 (kI (ko gh1_hnx)),.w 0 72 0 (ndV x xr xn),.r 0 72 10,.z 1] []
theorem na_ce(h h1:Heap)(p d q n:Nat)(t:List UInt8)(gh1_hnx:h1.get h.nx=some (.row 72 z72 0 false))(_lhnxh1:h.nx < h1.nx)(a0:Pu n 252 [pv p 0] (.bool true) (al h.fresh 72 z72))(a1:RD n 253 (y9_4 p d t) (al h.fresh 72 z72)=some (.tuple #[z72V,.iface 242 (pv q 0)],h1)):∃ H,Fn n 250 (y9_4 p d t) h (y9_6 q) H∧tl1 h1 h1.wm h.nx h1.nx H:=
 exT (kZ h) [aS 72 z72,yP a0,yC a1 (kI (ko gh1_hnx)),.w 0 72 0 (z72V),.r 0 72 10,.z 1] []
theorem na_t(h:Heap)(p d k T E n:Nat)(r:Option Addr)(t:List UInt8)(hp:h.get p=some (y9_15 r T k E))(_h1:k < 1000)(_hl:p < h.nx)(a0:Pu n 252 [pv p 0] (.bool false) (al h.fresh 72 z72))(a1:bqS ⟨⟨t⟩⟩ ⟨#[84,82,85,69]⟩=true):∃ H,Fn n 250 (y9_4 p d t) h (.tuple #[.agg #[iv 1,iv 1,iv 1,.string ⟨#[]⟩,iv 0,iv 0,iv 0,iv 0,.string ⟨#[]⟩,.slice none 0 0],.nilIface]) H∧tw1 h h.fresh.wm p (h.nx+1) H (H.get p=some (.row 274 [.slice r T T,iv ((k:Int)+1),iv E] 0 false)):=
 exT (kI (ko hp)) [aS 72 z72,yP a0,yT a1,.l 0 3 1,yW ((k:Int)+1),.w 0 3 1 (y9_18 k),.w 1 72 0 (.agg #[iv 1,iv 1,iv 1,.string ⟨#[]⟩,iv 0,iv 0,iv 0,iv 0,.string ⟨#[]⟩,.slice none 0 0]),.r 1 72 10,.z 1] [0]
theorem na_f(h:Heap)(p d k T E n:Nat)(r:Option Addr)(t:List UInt8)(hp:h.get p=some (y9_15 r T k E))(_h1:k < 1000)(_hl:p < h.nx)(a0:Pu n 252 [pv p 0] (.bool false) (al h.fresh 72 z72))(a1:bqS ⟨⟨t⟩⟩ ⟨#[84,82,85,69]⟩=false)(a2:bqS ⟨⟨t⟩⟩ ⟨#[70,65,76,83,69]⟩=true):∃ H,Fn n 250 (y9_4 p d t) h (.tuple #[.agg #[iv 1,iv 1,iv 0,.string ⟨#[]⟩,iv 0,iv 0,iv 0,iv 0,.string ⟨#[]⟩,.slice none 0 0],.nilIface]) H∧tw1 h h.fresh.wm p (h.nx+1) H (H.get p=some (.row 274 [.slice r T T,iv ((k:Int)+1),iv E] 0 false)):=
 exT (kI (ko hp)) [aS 72 z72,yP a0,yF a1,yT a2,.l 0 3 1,yW ((k:Int)+1),.w 0 3 1 (y9_18 k),.w 1 72 0 (.agg #[iv 1,iv 1,iv 0,.string ⟨#[]⟩,iv 0,iv 0,iv 0,iv 0,.string ⟨#[]⟩,.slice none 0 0]),.r 1 72 10,.z 1] [0]
theorem na_e(h h1:Heap)(p d q n:Nat)(t:List UInt8)(a c:Int)(gh1_hnx:h1.get h.nx=some (.row 72 z72 0 false))(_lhnxh1:h.nx < h1.nx)(a0:Pu n 252 [pv p 0] (.bool false) (al h.fresh 72 z72))(a1:bqS ⟨⟨t⟩⟩ ⟨#[84,82,85,69]⟩=false)(a2:bqS ⟨⟨t⟩⟩ ⟨#[70,65,76,83,69]⟩=false)(a3:RD n 254 [pv p 0] (al h.fresh 72 z72)=some (.tuple #[.agg #[iv a,iv c],.iface 242 (pv q 0)],h1)):∃ H,Fn n 250 (y9_4 p d t) h (y9_6 q) H∧tl1 h1 h1.wm h.nx (h1.nx+1) H:=
 exT (kZ h) [aS 72 z72,yP a0,yF a1,yF a2,yC a3 (kI (ko gh1_hnx)),aS 29 [iv 0,iv 0],.w 1 29 0 (.agg #[iv a,iv c]),bT,.w 0 72 0 (z72V),.r 0 72 10,.z 1] []
theorem na_r(h h1:Heap)(p d n:Nat)(t:List UInt8)(a c:Int)(gh1_hnx:h1.get h.nx=some (.row 72 z72 0 false))(_lhnxh1:h.nx < h1.nx)(a0:Pu n 252 [pv p 0] (.bool false) (al h.fresh 72 z72))(a1:bqS ⟨⟨t⟩⟩ ⟨#[84,82,85,69]⟩=false)(a2:bqS ⟨⟨t⟩⟩ ⟨#[70,65,76,83,69]⟩=false)(a3:RD n 254 [pv p 0] (al h.fresh 72 z72)=some (.tuple #[.agg #[iv a,iv c],.nilIface],h1))(a4:Pu n 200 [pv p 0,sv (h1.nx+1) 0 1 1] (.tuple #[.string ⟨#[]⟩,.bool false]) (y9_14 h1 a c)):∃ H,Fn n 250 (y9_4 p d t) h (.tuple #[.agg #[iv 2,iv 0,iv 0,.string ⟨#[]⟩,iv a,iv c,iv 0,iv 0,.string ⟨#[]⟩,.slice none 0 0],.nilIface]) H∧tl1 h1 h1.wm h.nx (h1.nx+2) H:=
 exT (kZ h) [aS 72 z72,yP a0,yF a1,yF a2,yC a3 (kI (ko gh1_hnx)),aS 29 [iv 0,iv 0],.w 1 29 0 (.agg #[iv a,iv c]),bF,aS 9 [.string ⟨#[58]⟩],yP a4,.g 1 29 0 2,.w 0 72 0 (.agg #[iv 2,iv 0,iv 0,.string ⟨#[]⟩,iv a,iv c,iv 0,iv 0,.string ⟨#[]⟩,.slice none 0 0]),.r 0 72 10,.z 1] []
theorem na_e2(h h1 h2 h3:Heap)(p d q n:Nat)(t s:List UInt8)(a c ua uc:Int)(gh3_hnx:h3.get h.nx=some (.row 72 z72 0 false))(_lhnxh3:h.nx < h3.nx)(a0:Pu n 252 [pv p 0] (.bool false) (al h.fresh 72 z72))(a1:bqS ⟨⟨t⟩⟩ ⟨#[84,82,85,69]⟩=false)(a2:bqS ⟨⟨t⟩⟩ ⟨#[70,65,76,83,69]⟩=false)(a3:RD n 254 [pv p 0] (al h.fresh 72 z72)=some (.tuple #[.agg #[iv a,iv c],.nilIface],h1))(a4:RD n 200 [pv p 0,sv (h1.nx+1) 0 1 1] (y9_14 h1 a c)=some (.tuple #[.string ⟨⟨s⟩⟩,.bool true],h2))(a5:RD n 254 [pv p 0] h2=some (.tuple #[.agg #[iv ua,iv uc],.iface 242 (pv q 0)],h3)):∃ H,Fn n 250 (y9_4 p d t) h (y9_6 q) H∧tl1 h3 h3.wm h.nx (h3.nx+1) H:=
 exT (kZ h) [aS 72 z72,yP a0,yF a1,yF a2,yC a3 (kZ h1),aS 29 [iv 0,iv 0],.w 0 29 0 (.agg #[iv a,iv c]),bF,aS 9 [.string ⟨#[58]⟩],yC a4 (kZ h2),yC a5 (kI (ko gh3_hnx)),aS 29 [iv 0,iv 0],.w 1 29 0 (.agg #[iv ua,iv uc]),bT,.w 0 72 0 (z72V),.r 0 72 10,.z 1] []
theorem na_g(h h1 h2 h3:Heap)(p d n:Nat)(t s:List UInt8)(a c ua uc:Int)(r0 c0 r1 c1:Int)(gh3_hnx:h3.get h.nx=some (.row 72 z72 0 false))(_lhnxh3:h.nx < h3.nx)(gh3_h1nx:h3.get h1.nx=some (.row 29 [iv a,iv c] 0 false))(_lh1nxh3:h1.nx < h3.nx)(a0:Pu n 252 [pv p 0] (.bool false) (al h.fresh 72 z72))(a1:bqS ⟨⟨t⟩⟩ ⟨#[84,82,85,69]⟩=false)(a2:bqS ⟨⟨t⟩⟩ ⟨#[70,65,76,83,69]⟩=false)(a3:RD n 254 [pv p 0] (al h.fresh 72 z72)=some (.tuple #[.agg #[iv a,iv c],.nilIface],h1))(a4:RD n 200 [pv p 0,sv (h1.nx+1) 0 1 1] (y9_14 h1 a c)=some (.tuple #[.string ⟨⟨s⟩⟩,.bool true],h2))(a5:RD n 254 [pv p 0] h2=some (.tuple #[.agg #[iv ua,iv uc],.nilIface],h3))(a6:Pu n 255 [.agg #[iv a,iv c],.agg #[iv ua,iv uc]] (.tuple #[.agg #[iv r0,iv c0,iv r1,iv c1],.bool true]) (pt (al h3 29 [iv 0,iv 0]) h3.nx 29 [iv ua,iv uc])):∃ H,Fn n 250 (y9_4 p d t) h (.tuple #[.agg #[iv 3,iv 0,iv 0,.string ⟨#[]⟩,iv r0,iv c0,iv r1,iv c1,.string ⟨#[]⟩,.slice none 0 0],.nilIface]) H∧tl1 h3 h3.wm h.nx (h3.nx+2) H:=
 exT (kZ h) [aS 72 z72,yP a0,yF a1,yF a2,yC a3 (kZ h1),aS 29 [iv 0,iv 0],.w 0 29 0 (.agg #[iv a,iv c]),bF,aS 9 [.string ⟨#[58]⟩],yC a4 (kZ h2),yC a5 (kJ (ko gh3_h1nx) (ko gh3_hnx)),aS 29 [iv 0,iv 0],.w 2 29 0 (.agg #[iv ua,iv uc]),bF,.g 0 29 0 2,.g 2 29 0 2,yP a6,aS 43 [iv 0,iv 0,iv 0,iv 0],.w 3 43 0 (.agg #[iv r0,iv c0,iv r1,iv c1]),.g 3 43 0 4,.w 1 72 0 (.agg #[iv 3,iv 0,iv 0,.string ⟨#[]⟩,iv r0,iv c0,iv r1,iv c1,.string ⟨#[]⟩,.slice none 0 0]),.r 1 72 10,.z 1] []
theorem pa_end(h h1:Heap)(p k T E d q:Nat)(r:Option Addr)(n:Nat)(hp:h.get p=some (y9_15 r T k E))(_hl:p < h.nx)(gh1_hnx:h1.get h.nx=some (.row 72 z72 0 false))(_lhnxh1:h.nx < h1.nx)(a0:(((k:Int):Int)==T)=true)(a1:RD n 177 [pv p 0] (al h.fresh 72 z72)=some (.iface 242 (pv q 0),h1)):∃ H,Fn n 248 (y9_9 p d) h (y9_6 q) H∧tl1 h1 h1.wm h.nx h1.nx H:=
 exT (kI (ko hp)) [aS 72 z72,.l 0 3 1,.l 0 155 0,yT a0,yN (h.nx+1),.q (.l 0 3 1),.q (.l 0 155 0),yQ (iv T),yC a1 (kI (ko gh1_hnx)),.w 0 72 0 (z72V),.r 0 72 10,.z 1] []
theorem pa_num(h:Heap)(p b k T E d:Nat)(ts:List Tk)(x:Tk)(n:Nat)(hp:h.get p=some (y9_3 b T k E))(hb:h.get b=some (y9_8 ts))(hx:ts[k]? =some x)(_h1:k < T)(_h2:T < 4611686018427387904)(_hl:p < h.nx)(_hb:b < h.nx)(a0:(((k:Int):Int)==T)=false)(a1:(((x.k:Int):Int)==1)=true):∃ H,Fn n 248 (y9_9 p d) h (.tuple #[.agg #[iv 1,iv 2,iv (x.n:Int),.string ⟨#[]⟩,iv 0,iv 0,iv 0,iv 0,.string ⟨#[]⟩,.slice none 0 0],.nilIface]) H∧tw1 h h.fresh.wm p (h.nx+2) H (H.get p=some (y9_17 b T k E)):=
 exT (kJ (ko hp) (kx hb hx)) [aS 72 z72,.l 0 3 1,.l 0 155 0,yF a0,yN (h.nx+1),.q (.l 0 3 1),.q (.l 0 155 0),yQ (iv T),.v 1,.l 0 155 0,.l 0 3 1,iA 155 199 4 b T k,.m 1 199 0,bS 0 199 y9_13,.w 3 199 0 (y9_2 x),yN (h.nx+2),.j 1,.q (.l 0 155 0),.q (.l 0 3 1),.q (.m 1 199 0),.j 3,.l 3 3 0,yT a1,.l 0 3 1,yW ((k:Int)+1),.w 0 3 1 (y9_18 k),.l 3 2 1,.w 2 72 0 (.agg #[iv 1,iv 2,iv (x.n:Int),.string ⟨#[]⟩,iv 0,iv 0,iv 0,iv 0,.string ⟨#[]⟩,.slice none 0 0]),.r 2 72 10,.z 1] [0]
theorem pa_str(h:Heap)(p b k T E d:Nat)(ts:List Tk)(x:Tk)(n:Nat)(hp:h.get p=some (y9_3 b T k E))(hb:h.get b=some (y9_8 ts))(hx:ts[k]? =some x)(_h1:k < T)(_h2:T < 4611686018427387904)(_hl:p < h.nx)(_hb:b < h.nx)(a0:(((k:Int):Int)==T)=false)(a1:(((x.k:Int):Int)==1)=false)(a2:(((x.k:Int):Int)==2)=true)(a3:Pu n 74 [.string ⟨⟨x.t⟩⟩] (.agg #[iv 3,iv 0,.string ⟨⟨x.t⟩⟩]) (y9_1 h x)):∃ H,Fn n 248 (y9_9 p d) h (.tuple #[.agg #[iv 1,iv 3,iv 0,.string ⟨⟨x.t⟩⟩,iv 0,iv 0,iv 0,iv 0,.string ⟨#[]⟩,.slice none 0 0],.nilIface]) H∧tw1 h h.fresh.wm p (h.nx+3) H (H.get p=some (y9_17 b T k E)):=
 exT (kJ (ko hp) (kx hb hx)) [aS 72 z72,.l 0 3 1,.l 0 155 0,yF a0,yN (h.nx+1),.q (.l 0 3 1),.q (.l 0 155 0),yQ (iv T),.v 1,.l 0 155 0,.l 0 3 1,iA 155 199 4 b T k,.m 1 199 0,bS 0 199 y9_13,.w 3 199 0 (y9_2 x),yN (h.nx+2),.j 1,.q (.l 0 155 0),.q (.l 0 3 1),.q (.m 1 199 0),.j 3,.l 3 3 0,yF a1,yT a2,.l 3 9 2,yP a3,aS 27 y9_5,.w 4 27 0 (.agg #[iv 3,iv 0,.string ⟨⟨x.t⟩⟩]),.l 4 3 0,bT,.l 0 3 1,yW ((k:Int)+1),.w 0 3 1 (y9_18 k),.g 4 27 0 3,.w 2 72 0 (.agg #[iv 1,iv 3,iv 0,.string ⟨⟨x.t⟩⟩,iv 0,iv 0,iv 0,iv 0,.string ⟨#[]⟩,.slice none 0 0]),.r 2 72 10,.z 1] [0]
theorem pa_long(h h1:Heap)(p b k T E d q:Nat)(ts:List Tk)(x:Tk)(n:Nat)(hp:h.get p=some (y9_3 b T k E))(hb:h.get b=some (y9_8 ts))(hx:ts[k]? =some x)(_h1:k < T)(_h2:T < 4611686018427387904)(_hl:p < h.nx)(_hb:b < h.nx)(gh1_hnx:h1.get h.nx=some (.row 72 z72 0 false))(_lhnxh1:h.nx < h1.nx)(a0:(((k:Int):Int)==T)=false)(a1:(((x.k:Int):Int)==1)=false)(a2:(((x.k:Int):Int)==2)=true)(a3:Pu n 74 [.string ⟨⟨x.t⟩⟩] y9_7 (y9_1 h x))(a4:RD n 177 [pv p 0] (pt (al (y9_1 h x) 27 y9_5) (h.nx+2) 27 y9_20)=some (.iface 242 (pv q 0),h1)):∃ H,Fn n 248 (y9_9 p d) h (y9_6 q) H∧tl1 h1 h1.wm h.nx h1.nx H:=
 exT (kJ (ko hp) (kx hb hx)) [aS 72 z72,.l 0 3 1,.l 0 155 0,yF a0,yN (h.nx+1),.q (.l 0 3 1),.q (.l 0 155 0),yQ (iv T),.v 1,.l 0 155 0,.l 0 3 1,iA 155 199 4 b T k,.m 1 199 0,bS 0 199 y9_13,.w 3 199 0 (y9_2 x),yN (h.nx+2),.j 1,.q (.l 0 155 0),.q (.l 0 3 1),.q (.m 1 199 0),.j 3,.l 3 3 0,yF a1,yT a2,.l 3 9 2,yP a3,aS 27 y9_5,.w 4 27 0 y9_7,.l 4 3 0,bF,yC a4 (kI (ko gh1_hnx)),.w 0 72 0 (z72V),.r 0 72 10,.z 1] []
theorem pa_na(h h1:Heap)(p b k T E d:Nat)(ts:List Tk)(x:Tk)(n:Nat)(y:Hd)(yr:Option Addr)(yn:Nat)(hp:h.get p=some (y9_3 b T k E))(hb:h.get b=some (y9_8 ts))(hx:ts[k]? =some x)(_h1:k < T)(_h2:T < 4611686018427387904)(_hl:p < h.nx)(_hb:b < h.nx)(gh1_hnx:h1.get h.nx=some (.row 72 z72 0 false))(_lhnxh1:h.nx < h1.nx)(a0:(((k:Int):Int)==T)=false)(a1:(((x.k:Int):Int)==1)=false)(a2:(((x.k:Int):Int)==2)=false)(a3:(((x.k:Int):Int)==3)=true)(a4:RD n 250 [pv p 0,iv (d:Int),.string ⟨⟨x.t⟩⟩] (y9_1 h x)=some (.tuple #[ndV y yr yn,.nilIface],h1)):∃ H,Fn n 248 (y9_9 p d) h (.tuple #[ndV y yr yn,.nilIface]) H∧tl1 h1 h1.wm h.nx h1.nx H:=
 exT (kJ (ko hp) (kx hb hx)) [aS 72 z72,.l 0 3 1,.l 0 155 0,yF a0,yN (h.nx+1),.q (.l 0 3 1),.q (.l 0 155 0),yQ (iv T),.v 1,.l 0 155 0,.l 0 3 1,iA 155 199 4 b T k,.m 1 199 0,bS 0 199 y9_13,.w 3 199 0 (y9_2 x),yN (h.nx+2),.j 1,.q (.l 0 155 0),.q (.l 0 3 1),.q (.m 1 199 0),.j 3,.l 3 3 0,yF a1,yF a2,yT a3,.l 3 9 2,yC a4 (kI (ko gh1_hnx)),.w 0 72 0 (ndV y yr yn),.r 0 72 10,.z 1] []
theorem pa_ne(h h1:Heap)(p b k T E d q:Nat)(ts:List Tk)(x:Tk)(n:Nat)(hp:h.get p=some (y9_3 b T k E))(hb:h.get b=some (y9_8 ts))(hx:ts[k]? =some x)(_h1:k < T)(_h2:T < 4611686018427387904)(_hl:p < h.nx)(_hb:b < h.nx)(gh1_hnx:h1.get h.nx=some (.row 72 z72 0 false))(_lhnxh1:h.nx < h1.nx)(a0:(((k:Int):Int)==T)=false)(a1:(((x.k:Int):Int)==1)=false)(a2:(((x.k:Int):Int)==2)=false)(a3:(((x.k:Int):Int)==3)=true)(a4:RD n 250 [pv p 0,iv (d:Int),.string ⟨⟨x.t⟩⟩] (y9_1 h x)=some (.tuple #[z72V,.iface 242 (pv q 0)],h1)):∃ H,Fn n 248 (y9_9 p d) h (y9_6 q) H∧tl1 h1 h1.wm h.nx h1.nx H:=
 exT (kJ (ko hp) (kx hb hx)) [aS 72 z72,.l 0 3 1,.l 0 155 0,yF a0,yN (h.nx+1),.q (.l 0 3 1),.q (.l 0 155 0),yQ (iv T),.v 1,.l 0 155 0,.l 0 3 1,iA 155 199 4 b T k,.m 1 199 0,bS 0 199 y9_13,.w 3 199 0 (y9_2 x),yN (h.nx+2),.j 1,.q (.l 0 155 0),.q (.l 0 3 1),.q (.m 1 199 0),.j 3,.l 3 3 0,yF a1,yF a2,yT a3,.l 3 9 2,yC a4 (kI (ko gh1_hnx)),.w 0 72 0 (z72V),.r 0 72 10,.z 1] []
theorem pa_no(h h1:Heap)(p b k T E d q:Nat)(ts:List Tk)(x:Tk)(n:Nat)(hp:h.get p=some (y9_3 b T k E))(hb:h.get b=some (y9_8 ts))(hx:ts[k]? =some x)(_h1:k < T)(_h2:T < 4611686018427387904)(_hl:p < h.nx)(_hb:b < h.nx)(gh1_hnx:h1.get h.nx=some (.row 72 z72 0 false))(_lhnxh1:h.nx < h1.nx)(a0:(((k:Int):Int)==T)=false)(a1:(((x.k:Int):Int)==1)=false)(a2:(((x.k:Int):Int)==2)=false)(a3:(((x.k:Int):Int)==3)=false)(a4:(((x.k:Int):Int)==4)=true)(a5:Pu n 200 [pv p 0,sv (h.nx+2) 0 1 1] (.tuple #[.string ⟨#[]⟩,.bool false]) (y9_19 h x))(a6:RD n 177 [pv p 0] (y9_19 h x)=some (.iface 242 (pv q 0),h1)):∃ H,Fn n 248 (y9_9 p d) h (y9_6 q) H∧tl1 h1 h1.wm h.nx h1.nx H:=
 exT (kJ (ko hp) (kx hb hx)) [aS 72 z72,.l 0 3 1,.l 0 155 0,yF a0,yN (h.nx+1),.q (.l 0 3 1),.q (.l 0 155 0),yQ (iv T),.v 1,.l 0 155 0,.l 0 3 1,iA 155 199 4 b T k,.m 1 199 0,bS 0 199 y9_13,.w 3 199 0 (y9_2 x),yN (h.nx+2),.j 1,.q (.l 0 155 0),.q (.l 0 3 1),.q (.m 1 199 0),.j 3,.l 3 3 0,yF a1,yF a2,yF a3,yT a4,aS 9 [.string ⟨#[40]⟩],yP a5,yC a6 (kI (ko gh1_hnx)),.w 0 72 0 (z72V),.r 0 72 10,.z 1] []
theorem pa_in(h h1 h2:Heap)(p b k T E d:Nat)(s:List UInt8)(ts:List Tk)(x:Tk)(n:Nat)(y:Hd)(yr:Option Addr)(yn:Nat)(hp:h.get p=some (y9_3 b T k E))(hb:h.get b=some (y9_8 ts))(hx:ts[k]? =some x)(_h1:k < T)(_h2:T < 4611686018427387904)(_hl:p < h.nx)(_hb:b < h.nx)(gh2_hnx:h2.get h.nx=some (.row 72 z72 0 false))(_lhnxh2:h.nx < h2.nx)(a0:(((k:Int):Int)==T)=false)(a1:(((x.k:Int):Int)==1)=false)(a2:(((x.k:Int):Int)==2)=false)(a3:(((x.k:Int):Int)==3)=false)(a4:(((x.k:Int):Int)==4)=true)(a5:RD n 200 [pv p 0,sv (h.nx+2) 0 1 1] (y9_19 h x)=some (.tuple #[.string ⟨⟨s⟩⟩,.bool true],h1))(a6:RD n 251 (y9_9 p d) h1=some (.tuple #[ndV y yr yn,.nilIface],h2)):∃ H,Fn n 248 (y9_9 p d) h (.tuple #[ndV y yr yn,.nilIface]) H∧tl1 h2 h2.wm h.nx h2.nx H:=
 exT (kJ (ko hp) (kx hb hx)) [aS 72 z72,.l 0 3 1,.l 0 155 0,yF a0,yN (h.nx+1),.q (.l 0 3 1),.q (.l 0 155 0),yQ (iv T),.v 1,.l 0 155 0,.l 0 3 1,iA 155 199 4 b T k,.m 1 199 0,bS 0 199 y9_13,.w 3 199 0 (y9_2 x),yN (h.nx+2),.j 1,.q (.l 0 155 0),.q (.l 0 3 1),.q (.m 1 199 0),.j 3,.l 3 3 0,yF a1,yF a2,yF a3,yT a4,aS 9 [.string ⟨#[40]⟩],yC a5 (kZ h1),yC a6 (kI (ko gh2_hnx)),.w 0 72 0 (ndV y yr yn),.r 0 72 10,.z 1] []
theorem pa_ie(h h1 h2:Heap)(p b k T E d q:Nat)(s:List UInt8)(ts:List Tk)(x:Tk)(n:Nat)(hp:h.get p=some (y9_3 b T k E))(hb:h.get b=some (y9_8 ts))(hx:ts[k]? =some x)(_h1:k < T)(_h2:T < 4611686018427387904)(_hl:p < h.nx)(_hb:b < h.nx)(gh2_hnx:h2.get h.nx=some (.row 72 z72 0 false))(_lhnxh2:h.nx < h2.nx)(a0:(((k:Int):Int)==T)=false)(a1:(((x.k:Int):Int)==1)=false)(a2:(((x.k:Int):Int)==2)=false)(a3:(((x.k:Int):Int)==3)=false)(a4:(((x.k:Int):Int)==4)=true)(a5:RD n 200 [pv p 0,sv (h.nx+2) 0 1 1] (y9_19 h x)=some (.tuple #[.string ⟨⟨s⟩⟩,.bool true],h1))(a6:RD n 251 (y9_9 p d) h1=some (.tuple #[z72V,.iface 242 (pv q 0)],h2)):∃ H,Fn n 248 (y9_9 p d) h (y9_6 q) H∧tl1 h2 h2.wm h.nx h2.nx H:=
 exT (kJ (ko hp) (kx hb hx)) [aS 72 z72,.l 0 3 1,.l 0 155 0,yF a0,yN (h.nx+1),.q (.l 0 3 1),.q (.l 0 155 0),yQ (iv T),.v 1,.l 0 155 0,.l 0 3 1,iA 155 199 4 b T k,.m 1 199 0,bS 0 199 y9_13,.w 3 199 0 (y9_2 x),yN (h.nx+2),.j 1,.q (.l 0 155 0),.q (.l 0 3 1),.q (.m 1 199 0),.j 3,.l 3 3 0,yF a1,yF a2,yF a3,yT a4,aS 9 [.string ⟨#[40]⟩],yC a5 (kZ h1),yC a6 (kI (ko gh2_hnx)),.w 0 72 0 (z72V),.r 0 72 10,.z 1] []
theorem pa_ot(h h1:Heap)(p b k T E d q:Nat)(ts:List Tk)(x:Tk)(n:Nat)(hp:h.get p=some (y9_3 b T k E))(hb:h.get b=some (y9_8 ts))(hx:ts[k]? =some x)(_h1:k < T)(_h2:T < 4611686018427387904)(_hl:p < h.nx)(_hb:b < h.nx)(gh1_hnx:h1.get h.nx=some (.row 72 z72 0 false))(_lhnxh1:h.nx < h1.nx)(a0:(((k:Int):Int)==T)=false)(a1:(((x.k:Int):Int)==1)=false)(a2:(((x.k:Int):Int)==2)=false)(a3:(((x.k:Int):Int)==3)=false)(a4:(((x.k:Int):Int)==4)=false)(a5:RD n 177 [pv p 0] (y9_1 h x)=some (.iface 242 (pv q 0),h1)):∃ H,Fn n 248 (y9_9 p d) h (y9_6 q) H∧tl1 h1 h1.wm h.nx h1.nx H:=
 exT (kJ (ko hp) (kx hb hx)) [aS 72 z72,.l 0 3 1,.l 0 155 0,yF a0,yN (h.nx+1),.q (.l 0 3 1),.q (.l 0 155 0),yQ (iv T),.v 1,.l 0 155 0,.l 0 3 1,iA 155 199 4 b T k,.m 1 199 0,bS 0 199 y9_13,.w 3 199 0 (y9_2 x),yN (h.nx+2),.j 1,.q (.l 0 155 0),.q (.l 0 3 1),.q (.m 1 199 0),.j 3,.l 3 3 0,yF a1,yF a2,yF a3,yF a4,yC a5 (kI (ko gh1_hnx)),.w 0 72 0 (z72V),.r 0 72 10,.z 1] []
theorem of_ok(h:Heap)(t:ByteArray)(n:Nat)(a0:decide ((t.data.toList.length:Int)>200)=false):Fn n 74 [.string t] h (.agg #[iv 3,iv 0,.string t]) (pt (al h.fresh 27 y9_5) h.nx 27 [iv 3,iv 0,.string t]):=
 fnV (kZ h) [aS 27 y9_5,yF a0,.w 0 27 0 (.agg #[iv 3,iv 0,.string t]),.r 0 27 3]
theorem of_long(h:Heap)(t:ByteArray)(n:Nat)(a0:decide ((t.data.toList.length:Int)>200)=true)(a1:Pu n 107 [iv 7] y9_7 (al h.fresh 27 y9_5)):Fn n 74 [.string t] h y9_7 (pt (al h.fresh 27 y9_5) h.nx 27 y9_20):=
 fnV (kZ h) [aS 27 y9_5,yT a0,yP a1,.w 0 27 0 y9_7,.r 0 27 3]
theorem fail7(h:Heap)(n:Nat):Fn n 107 [iv 7] h y9_7 (pt (al h.fresh 27 y9_5) h.nx 27 y9_20):=
 fnV (kZ h) [aS 27 y9_5,bF,bF,.w 0 27 0 y9_7,.r 0 27 3]
theorem made_ok(h:Heap)(a c ua uc:Nat)(n:Nat)(a0:Pu n 37 [.agg #[iv (a:Int),iv (c:Int)]] (.bool true) (y9_10 h a c ua uc))(a1:Pu n 37 [.agg #[iv (ua:Int),iv (uc:Int)]] (.bool true) (y9_10 h a c ua uc))(a2:minA (fun y x=>decide (y < x)) (iv (a:Int)) [iv (ua:Int)]=some (iv ((min a ua:Nat):Int)))(a3:minA (fun y x=>decide (y < x)) (iv (c:Int)) [iv (uc:Int)]=some (iv ((min c uc:Nat):Int)))(a4:minA (fun y x=>decide (y>x)) (iv (a:Int)) [iv (ua:Int)]=some (iv ((max a ua:Nat):Int)))(a5:minA (fun y x=>decide (y>x)) (iv (c:Int)) [iv (uc:Int)]=some (iv ((max c uc:Nat):Int))):Fn n 255 [.agg #[iv (a:Int),iv (c:Int)],.agg #[iv (ua:Int),iv (uc:Int)]] h (.tuple #[.agg #[iv ((min a ua:Nat):Int),iv ((min c uc:Nat):Int),iv ((max a ua:Nat):Int),iv ((max c uc:Nat):Int)],.bool true]) (pt (y9_10 h a c ua uc) (h.nx+2) 43 [iv ((min a ua:Nat):Int),iv ((min c uc:Nat):Int),iv ((max a ua:Nat):Int),iv ((max c uc:Nat):Int)]):=
 fnT (kZ h) [aS 29 [iv (a:Int),iv (c:Int)],aS 29 [iv (ua:Int),iv (uc:Int)],aS 43 [iv 0,iv 0,iv 0,iv 0],.g 0 29 0 2,yP a0,.g 1 29 0 2,yP a1,.l 0 3 0,.l 1 3 0,yE a2,.l 0 3 1,.l 1 3 1,yE a3,.l 0 3 0,.l 1 3 0,yE a4,.l 0 3 1,.l 1 3 1,yE a5,.w 2 43 0 (.agg #[iv ((min a ua:Nat):Int),iv ((min c uc:Nat):Int),iv ((max a ua:Nat):Int),iv ((max c uc:Nat):Int)]),.r 2 43 4,.z 1]
end
end Go.PanE
namespace Go.PanE
open Go.Proofs
/-- What addr.Parse makes of names. -/
def AdrA(m:Int)(A:List UInt8→Option (Nat×Nat))(N0:Nat):Prop:=
 (∀ l a c,A l=some (a,c)→1≤a∧a≤1000∧1≤c∧c≤50)∧
 ∀ (l:List UInt8) (h:Heap) (n:Nat),N0≤n→Gl m h→l.length≤4000→
  match A l with
  |some (a,c)=>RD n 28 [.string ⟨⟨l⟩⟩] h=some (.tuple #[.agg #[iv (a:Int),iv (c:Int)],.bool true],h)
  |none=>∃ a c:Int,RD n 28 [.string ⟨⟨l⟩⟩] h=some (.tuple #[.agg #[iv a,iv c],.bool false],h)
theorem minN(a c:Nat):minA (fun y x=>decide (y < x)) (iv (a:Int)) [iv (c:Int)]=some (iv ((min a c:Nat):Int)):=by
 show some (Value.int .i64 (if decide ((c:Int) < (a:Int))=true then(c:Int) else(a:Int)))=_
 congr 2
 by_cases h:c < a
 ·rw[if_pos (decide_eq_true (by omega)),Nat.min_eq_right (by omega)]
 ·rw[if_neg (by simpa using h),Nat.min_eq_left (by omega)]
theorem maxN(a c:Nat):minA (fun y x=>decide (y>x)) (iv (a:Int)) [iv (c:Int)]=some (iv ((max a c:Nat):Int)):=by
 show some (Value.int .i64 (if decide ((c:Int)>(a:Int))=true then(c:Int) else(a:Int)))=_
 congr 2
 by_cases h:a < c
 ·rw[if_pos (decide_eq_true (by omega)),Nat.max_eq_right (by omega)]
 ·rw[if_neg (by simpa using h),Nat.max_eq_left (by omega)]
theorem good_in{a c:Nat}(h:1≤a∧a≤1000∧1≤c∧c≤50)(g:Heap)(n:Nat)(hn:1≤n):RD n 37 [.agg #[iv (a:Int),iv (c:Int)]] g=some (.bool true,g):=by
 have:=goodB_law (a:Int) (c:Int) g n hn
 have e:goodB (a:Int) (c:Int)=true:=by
  unfold goodB
  rw[decide_eq_true (by omega),decide_eq_true (by omega),decide_eq_true (by omega),decide_eq_true (by omega)];rfl
 rw[e] at this
 exact this
theorem made_law{a c u w:Nat}(h1:1≤a∧a≤1000∧1≤c∧c≤50)(h2:1≤u∧u≤1000∧1≤w∧w≤50)(h:Heap)(n:Nat)(hn:2≤n):
  RD n 255 [.agg #[iv (a:Int),iv (c:Int)],.agg #[iv (u:Int),iv (w:Int)]] h=some (.tuple #[.agg #[iv ((min a u:Nat):Int),iv ((min c w:Nat):Int),iv ((max a u:Nat):Int),iv ((max c w:Nat):Int)],.bool true],h):=by
 obtain⟨n,rfl⟩:∃ m,n=m+1:=⟨n - 1,by omega⟩
 refine(made_ok h a c u w n (good_in h1 _ n (by omega)) (good_in h2 _ n (by omega)) (minN _ _) (minN _ _) (maxN _ _) (maxN _ _)).trans ?_
 rw[finish_low (by simp only[al,pt,Heap.wm_alloc,Heap.wm_put,Heap.wm_fresh];omega) rfl]
theorem of_law(l:List UInt8)(h:Heap)(n:Nat)(hn:2≤n):RD n 74 [.string ⟨⟨l⟩⟩] h=some (if l.length≤200 then .agg #[iv 3,iv 0,.string ⟨⟨l⟩⟩] else .agg #[iv 4,iv 7,.string ⟨#[]⟩],h):=by
 obtain⟨n,rfl⟩:∃ m,n=m+1+1:=⟨n - 2,by omega⟩
 by_cases hl:l.length≤200
 ·rw[if_pos hl]
  refine(of_ok h ⟨⟨l⟩⟩ (n+1) (gt_dec' (a:=l.length) (b:=200) (by omega))).trans ?_
  rw[finish_low (by simp only[al,pt,Heap.wm_alloc,Heap.wm_put,Heap.wm_fresh];omega) rfl]
 ·rw[if_neg hl]
  have e:RD (n+1) 107 [iv 7] (al h.fresh 27 [iv 0,iv 0,.string ⟨#[]⟩])=some (.agg #[iv 4,iv 7,.string ⟨#[]⟩],al h.fresh 27 [iv 0,iv 0,.string ⟨#[]⟩]):=by
   refine(fail7 _ n).trans ?_
   rw[finish_low (by simp only[al,pt,Heap.wm_alloc,Heap.wm_put,Heap.wm_fresh,Heap.nx_fresh];omega) rfl]
  refine(of_long h ⟨⟨l⟩⟩ (n+1) (gt_dec (a:=l.length) (b:=200) (by omega)) e).trans ?_
  rw[finish_low (by simp only[al,pt,Heap.wm_alloc,Heap.wm_put,Heap.wm_fresh];omega) rfl]
section
variable {m:Int} {p b:Nat} {ts:List Tk} {E:Nat} {A:List UInt8→Option (Nat×Nat)} {N0:Nat}
/-- What cell hands back. -/
def ResC(m:Int)(h:Heap)(p b:Nat)(ts:List Tk)(E k:Nat)(A:List UInt8→Option (Nat×Nat))(v:Value)(h':Heap):Prop:=
 Fr h h' p∧h'.wm≤h.wm∧match cellP ts A k with
  |some (a,c)=>v= .tuple #[.agg #[iv (a:Int),iv (c:Int)],.nilIface]∧PSt m h' p b ts E (k+1)∧h'.wm≤p
  |none=>∃ q,v= .tuple #[.agg #[iv 0,iv 0],.iface 242 (pv q 0)]∧h.nx≤q∧h'.get q=some (.row 245 [iv (place ts E k:Int),iv 13] 0 false)∧PSt m h' p b ts E k
theorem resc_err{h:Heap}{k q:Nat}{X:Option (Value×Heap)}{H hk:Heap}(e:X=some (finish h (.tuple #[.agg #[iv 0,iv 0],.iface 242 (pv q 0)]) H))(s0:PSt m h p b ts E k)(K:Kp h.fresh hk)
  (gH:∀ c,c < hk.nx→c≠h.nx→H.get c=hk.get c) (nH:H.nx=hk.nx) (hq:h.nx < q) (gq:hk.get q=some (.row 245 [iv (place ts E k:Int),iv 13] 0 false)) (hc:cellP ts A k=none):
  ∃ v h',X=some (v,h')∧ResC m h p b ts E k A v h':=by
 have kn:h.nx≤hk.nx:=K.nx
 have F':Fr h H p:=⟨by omega,fun c hc _=>(gH c (Nat.lt_of_lt_of_le hc K.nx) (by omega)).trans (K.get c hc)⟩
 have hpl:=s0.lt
 refine⟨_,_,fin_new e (low_err2 (Nat.le_of_lt hq)),F'.wm _,Nat.min_le_left _ _,?_⟩
 rw[hc]
 exact⟨q,rfl,Nat.le_of_lt hq,(gH q (Heap.lt_of_get gq) (by omega)).trans gq,(s0.fr F' ((gH p (by omega) (by omega)).trans ((K.get p hpl).trans s0.pp)) s0.kT).wm⟩
theorem cell_law(hA:AdrA m A N0)(hlen:∀ x∈ts,x.t.length≤4000)(n:Nat)(hn:N0+4≤n)(h:Heap)(k:Nat)(s:PSt m h p b ts E k):∃ v h',RD n 254 [pv p 0] h=some (v,h')∧ResC m h p b ts E k A v h':=by
 obtain⟨n,rfl⟩:∃ m,n=m+1:=⟨n - 1,by omega⟩
 have K0:Kp h.fresh (al h.fresh 29 [iv 0,iv 0]):=(Kp.refl _).al _ _
 have hT:=s.tT
 have g0:(al h.fresh 29 [iv 0,iv 0]).get h.nx=some (.row 29 [iv 0,iv 0] 0 false):=gN (h:=h.fresh)
 by_cases hk:k < ts.length
 ·obtain⟨x,hx⟩:=s.get hk
  have hbl:=Heap.lt_of_get (s.some_b hk)
  by_cases h3:x.k=3
  ·have e3:(((x.k:Int):Int)==3)=true:=by rw[h3];rfl
   have eo:=opens_law (s.fresh.kp K0) n (by omega)
   cases ho:opens ts k with
   |true=>
    rw[ho] at eo
    obtain⟨h1,e1,K1,n1,g1⟩:=fail_law (s.fresh.kp K0) n (by omega)
    have K01:=K0.trans K1
    obtain⟨H,e,g,nx,_⟩:=ce_op h h1 p b k ts.length E _ ts x n (s.pp' hk) (s.some_b hk) hx hk (by omega) s.lt hbl ((K1.get _ (Nat.lt_succ_self _)).trans g0) (Nat.lt_of_lt_of_le (Nat.lt_succ_self _) K1.nx) (lt_dec hk) e3 eo e1
    exact resc_err e s K01 g nx (Nat.lt_succ_self _) g1 (by unfold cellP;rw[hx];simp[ho])
   |false=>
    rw[ho] at eo
    have hc:cellP ts A k=A x.t:=by unfold cellP;rw[hx];simp[ho,h3]
    have hl:=hlen x (List.mem_of_getElem? hx)
    have hG:Gl m (reserve 1 (al h.fresh 29 [iv 0,iv 0])):=((s.fresh.kp K0).gl).reserve 1
    have ha:=hA.2 x.t _ n (by omega) hG hl
    cases hAx:A x.t with
    |some v=>
     obtain⟨a,c⟩:=v
     rw[hAx] at ha
     obtain⟨H,e,g,nx,wm,wp,w⟩:=ce_ok h p b k ts.length E (a:Int) (c:Int) ts x n (s.pp' hk) (s.some_b hk) hx hk (by omega) s.lt hbl (s.pb hk) (lt_dec hk) e3 eo ha
     have F':Fr h H p:=⟨by omega,g⟩
     refine⟨_,_,fin_wr e (by have:=s.lt;omega),F'.wm _,Nat.min_le_left _ _,?_⟩
     rw[hc,hAx]
     exact⟨rfl,(s.fr F' (by rw[w,tsV_some hk];rfl) (by omega)).wm,Nat.le_trans (Nat.min_le_right _ _) wp⟩
    |none=>
     rw[hAx] at ha
     obtain⟨a,c,ha⟩:=ha
     have KR:Kp h.fresh (reserve 1 (al h.fresh 29 [iv 0,iv 0])):=⟨by rw[Heap.nx_reserve];show h.nx≤h.nx+1+1;omega,fun c hc=>(Heap.get_reserve 1 _ (Nat.lt_succ_of_lt hc)).trans (K0.get c hc),by rw[Heap.wm_reserve];exact K0.wm⟩
     have nR:(reserve 1 (al h.fresh 29 [iv 0,iv 0])).nx=h.nx+2:=by rw[Heap.nx_reserve];rfl
     have K2:=(KR.pt (b:=h.nx+1) 29 [iv 0,iv 0] (by show h.nx≤h.nx+1;omega) (by omega)).pt (b:=h.nx+1) 29 [iv a,iv c] (by show h.nx≤h.nx+1;omega) (by show h.nx+1 < (reserve 1 (al h.fresh 29 [iv 0,iv 0])).nx;omega)
     obtain⟨h1,e1,K1,n1,g1⟩:=fail_law (s.fresh.kp K2) n (by omega)
     have nn:(pt (pt (reserve 1 (al h.fresh 29 [iv 0,iv 0])) (h.nx+1) 29 [iv 0,iv 0]) (h.nx+1) 29 [iv a,iv c]).nx=h.nx+2:=nR
     have gz:(pt (pt (reserve 1 (al h.fresh 29 [iv 0,iv 0])) (h.nx+1) 29 [iv 0,iv 0]) (h.nx+1) 29 [iv a,iv c]).get h.nx=some (.row 29 [iv 0,iv 0] 0 false):=gO (gO (gR g0) (by omega) (by omega)) (by show h.nx+1 < (reserve 1 (al h.fresh 29 [iv 0,iv 0])).nx;omega) (by omega)
     obtain⟨H,e,g,nx,_⟩:=ce_no h h1 p b k ts.length E _ a c ts x n (s.pp' hk) (s.some_b hk) hx hk (by omega) s.lt hbl ((K1.get _ (by omega)).trans gz) (by have:=K1.nx;omega) (lt_dec hk) e3 eo ha e1
     exact resc_err e s (K2.trans K1) g nx (by omega) g1 (by rw[hc,hAx])
  ·have e3:(((x.k:Int):Int)==3)=false:=by have:=eqN x.k 3;rw[decide_eq_false h3] at this;exact this
   obtain⟨h1,e1,K1,n1,g1⟩:=fail_law (s.fresh.kp K0) n (by omega)
   obtain⟨H,e,g,nx,_⟩:=ce_k h h1 p b k ts.length E _ ts x n (s.pp' hk) (s.some_b hk) hx hk (by omega) s.lt hbl ((K1.get _ (Nat.lt_succ_self _)).trans g0) (Nat.lt_of_lt_of_le (Nat.lt_succ_self _) K1.nx) (lt_dec hk) e3 e1
   exact resc_err e s (K0.trans K1) g nx (Nat.lt_succ_self _) g1 (by unfold cellP;rw[hx];simp[h3])
 ·obtain⟨h1,e1,K1,n1,g1⟩:=fail_law (s.fresh.kp K0) n (by omega)
  obtain⟨H,e,g,nx,_⟩:=ce_end h h1 p k ts.length E _ (tsR b ts) n s.pp s.lt ((K1.get _ (Nat.lt_succ_self _)).trans g0) (Nat.lt_of_lt_of_le (Nat.lt_succ_self _) K1.nx) (lt_dec' hk) e1
  exact resc_err e s (K0.trans K1) g nx (Nat.lt_succ_self _) g1 (by unfold cellP;rw[List.getElem?_eq_none (by omega)])
end
end Go.PanE
