/-
 Part 36 of the proof of Rows.DumpReadsCardSaid: The reference's parser, names and parts: paths printed by sx.py (m19.py).
 The reference's parser, names: paths printed by sx.py (m20.py).
 The reference's parser, calls: paths printed by sx.py (m21.py).
 The reference's parser, parts: the law.
 No conditions.
-/
import Derived.Test.YtihkphfmnnndfaaGreatDoorT35
namespace Go.PanE
open Go.Proofs
noncomputable section
abbrev z7_9:List Value:=[iv 0,iv 0,.string ⟨#[]⟩,iv 0]
abbrev z7_1(h:Heap)(x:Tk):Heap:=pt (pt (reserve 1 (al h.fresh 72 z72)) (h.nx+1) 199 z7_9) (h.nx+1) 199 [iv (x.k:Int),iv (x.n:Int),.string ⟨⟨x.t⟩⟩,iv (x.at_:Int)]
abbrev z7_2(x:Tk):Value:=.agg #[iv (x.k:Int),iv (x.n:Int),.string ⟨⟨x.t⟩⟩,iv (x.at_:Int)]
abbrev z7_3(b T k E d:Nat):AObj:=.row 160 [sv b 0 T T,iv (k:Int),iv E,iv (d:Int),iv 0,iv 0] 0 false
abbrev z7_4(b T k E d:Nat):List Value:=[sv b 0 T T,iv ((k:Int)+1),iv E,iv (d:Int),iv 0,iv 0]
abbrev z7_5(x:Tk):Value:=.agg #[iv 1,iv 2,iv (x.n:Int),.string ⟨#[]⟩,iv 0,iv 0,iv 0,iv 0,.string ⟨#[]⟩,.slice none 0 0]
abbrev z7_6(x:Tk):Value:=.agg #[iv 1,iv 3,iv 0,.string ⟨⟨x.t⟩⟩,iv 0,iv 0,iv 0,iv 0,.string ⟨#[]⟩,.slice none 0 0]
abbrev z7_7(ts:List Tk):AObj:=.row 199 (tkC ts) 4 false
abbrev z7_8(k:Nat):Value:=iv ((k:Int)+1)
theorem qt_end(h h1:Heap)(p k T E d n:Nat)(r:Option Addr)(hp:h.get p=some (.row 160 [.slice r T T,iv (k:Int),iv E,iv (d:Int),iv 0,iv 0] 0 false))(_hl:p < h.nx)(gh1_hnx:h1.get h.nx=some (.row 72 z72 0 false))(_lhnxh1:h.nx < h1.nx)(a0:decide (((k:Int):Int)≥T)=true)(a1:RD n 79 [pv p 0] (al h.fresh 72 z72)=some (.tuple #[],h1)):∃ H,Fn n 225 [pv p 0] h (z72V) H∧tl1 h1 h1.wm h.nx h1.nx H:=
 exV (kI (ko hp)) [aS 72 z72,.l 0 3 4,bF,.l 0 3 1,.l 0 155 0,yT a0,yN (h.nx+1),.q (.l 0 3 4),.q (.l 0 3 1),.q (.l 0 155 0),yQ (iv T),yC a1 (kI (ko gh1_hnx)),.w 0 72 0 (z72V),.r 0 72 10] []
theorem qt_num(h:Heap)(p b k T E d:Nat)(ts:List Tk)(x:Tk)(n:Nat)(hp:h.get p=some (z7_3 b T k E d))(hb:h.get b=some (z7_7 ts))(hx:ts[k]? =some x)(_h1:k < T)(_h2:T < 1000)(_hl:p < h.nx)(_hb:b < h.nx)(_hpb:b≠p)(a0:decide (((k:Int):Int)≥T)=false)(a1:(((x.k:Int):Int)==1)=true):∃ H,Fn n 225 [pv p 0] h (z7_5 x) H∧tw1 h h.fresh.wm p (h.nx+2) H (H.get p=some (.row 160 (z7_4 b T k E d) 0 false)):=
 exV (kJ (ko hp) (kx hb hx)) [aS 72 z72,.l 0 3 4,bF,.l 0 3 1,.l 0 155 0,yF a0,yN (h.nx+1),.q (.l 0 3 4),.q (.l 0 3 1),.q (.l 0 155 0),yQ (iv T),.v 1,.l 0 155 0,.l 0 3 1,iA 155 199 4 b T k,.m 1 199 0,bS 0 199 z7_9,.w 3 199 0 (z7_2 x),yN (h.nx+2),.j 1,.q (.l 0 155 0),.q (.l 0 3 1),.q (.m 1 199 0),.j 3,.l 3 3 0,yT a1,.l 0 3 1,yW ((k:Int)+1),.w 0 3 1 (z7_8 k),.l 3 2 1,.w 2 72 0 (z7_5 x),.r 2 72 10] [0]
theorem qt_str(h:Heap)(p b k T E d:Nat)(ts:List Tk)(x:Tk)(n:Nat)(hp:h.get p=some (z7_3 b T k E d))(hb:h.get b=some (z7_7 ts))(hx:ts[k]? =some x)(_h1:k < T)(_h2:T < 1000)(_hl:p < h.nx)(_hb:b < h.nx)(_hpb:b≠p)(a0:decide (((k:Int):Int)≥T)=false)(a1:(((x.k:Int):Int)==1)=false)(a2:(((x.k:Int):Int)==2)=true)(a3:decide (((⟨⟨x.t⟩⟩:ByteArray).data.toList.length:Int)>200)=false):∃ H,Fn n 225 [pv p 0] h (z7_6 x) H∧tw1 h h.fresh.wm p (h.nx+2) H (H.get p=some (.row 160 (z7_4 b T k E d) 0 false)):=
 exV (kJ (ko hp) (kx hb hx)) [aS 72 z72,.l 0 3 4,bF,.l 0 3 1,.l 0 155 0,yF a0,yN (h.nx+1),.q (.l 0 3 4),.q (.l 0 3 1),.q (.l 0 155 0),yQ (iv T),.v 1,.l 0 155 0,.l 0 3 1,iA 155 199 4 b T k,.m 1 199 0,bS 0 199 z7_9,.w 3 199 0 (z7_2 x),yN (h.nx+2),.j 1,.q (.l 0 155 0),.q (.l 0 3 1),.q (.m 1 199 0),.j 3,.l 3 3 0,yF a1,yT a2,.l 3 9 2,yF a3,.l 0 3 1,yW ((k:Int)+1),.w 0 3 1 (z7_8 k),.l 3 9 2,.w 2 72 0 (z7_6 x),.r 2 72 10] [0]
theorem qt_long(h h1:Heap)(p b k T E d:Nat)(ts:List Tk)(x:Tk)(n:Nat)(hp:h.get p=some (z7_3 b T k E d))(hb:h.get b=some (z7_7 ts))(hx:ts[k]? =some x)(_h1:k < T)(_h2:T < 1000)(_hl:p < h.nx)(_hb:b < h.nx)(_hpb:b≠p)(gh1_hnx:h1.get h.nx=some (.row 72 z72 0 false))(_lhnxh1:h.nx < h1.nx)(a0:decide (((k:Int):Int)≥T)=false)(a1:(((x.k:Int):Int)==1)=false)(a2:(((x.k:Int):Int)==2)=true)(a3:decide (((⟨⟨x.t⟩⟩:ByteArray).data.toList.length:Int)>200)=true)(a4:RD n 79 [pv p 0] (z7_1 h x)=some (.tuple #[],h1)):∃ H,Fn n 225 [pv p 0] h (z72V) H∧tl1 h1 h1.wm h.nx h1.nx H:=
 exV (kJ (ko hp) (kx hb hx)) [aS 72 z72,.l 0 3 4,bF,.l 0 3 1,.l 0 155 0,yF a0,yN (h.nx+1),.q (.l 0 3 4),.q (.l 0 3 1),.q (.l 0 155 0),yQ (iv T),.v 1,.l 0 155 0,.l 0 3 1,iA 155 199 4 b T k,.m 1 199 0,bS 0 199 z7_9,.w 3 199 0 (z7_2 x),yN (h.nx+2),.j 1,.q (.l 0 155 0),.q (.l 0 3 1),.q (.m 1 199 0),.j 3,.l 3 3 0,yF a1,yT a2,.l 3 9 2,yT a3,yC a4 (kI (ko gh1_hnx)),.w 0 72 0 (z72V),.r 0 72 10] []
theorem qt_nm(h h1:Heap)(p b k T E d:Nat)(ts:List Tk)(x:Tk)(n:Nat)(y:Hd)(yr:Option Addr)(yn:Nat)(hp:h.get p=some (z7_3 b T k E d))(hb:h.get b=some (z7_7 ts))(hx:ts[k]? =some x)(_h1:k < T)(_h2:T < 1000)(_hl:p < h.nx)(_hb:b < h.nx)(_hpb:b≠p)(gh1_hnx:h1.get h.nx=some (.row 72 z72 0 false))(_lhnxh1:h.nx < h1.nx)(a0:decide (((k:Int):Int)≥T)=false)(a1:(((x.k:Int):Int)==1)=false)(a2:(((x.k:Int):Int)==2)=false)(a3:(((x.k:Int):Int)==3)=true)(a4:RD n 232 [pv p 0,.agg #[iv (x.k:Int),iv (x.n:Int),.string ⟨⟨x.t⟩⟩,iv (x.at_:Int)]] (z7_1 h x)=some (ndV y yr yn,h1)):∃ H,Fn n 225 [pv p 0] h (ndV y yr yn) H∧tl1 h1 h1.wm h.nx h1.nx H:=
 exV (kJ (ko hp) (kx hb hx)) [aS 72 z72,.l 0 3 4,bF,.l 0 3 1,.l 0 155 0,yF a0,yN (h.nx+1),.q (.l 0 3 4),.q (.l 0 3 1),.q (.l 0 155 0),yQ (iv T),.v 1,.l 0 155 0,.l 0 3 1,iA 155 199 4 b T k,.m 1 199 0,bS 0 199 z7_9,.w 3 199 0 (z7_2 x),yN (h.nx+2),.j 1,.q (.l 0 155 0),.q (.l 0 3 1),.q (.m 1 199 0),.j 3,.l 3 3 0,yF a1,yF a2,yT a3,.g 3 199 0 4,yC a4 (kI (ko gh1_hnx)),.w 0 72 0 (ndV y yr yn),.r 0 72 10] []
theorem qt_no(h h1:Heap)(p b k T E d:Nat)(ts:List Tk)(x:Tk)(n:Nat)(hp:h.get p=some (z7_3 b T k E d))(hb:h.get b=some (z7_7 ts))(hx:ts[k]? =some x)(_h1:k < T)(_h2:T < 1000)(_hl:p < h.nx)(_hb:b < h.nx)(_hpb:b≠p)(gh1_hnx:h1.get h.nx=some (.row 72 z72 0 false))(_lhnxh1:h.nx < h1.nx)(a0:decide (((k:Int):Int)≥T)=false)(a1:(((x.k:Int):Int)==1)=false)(a2:(((x.k:Int):Int)==2)=false)(a3:(((x.k:Int):Int)==3)=false)(a4:Pu n 152 [pv p 0,.string ⟨#[40]⟩] (.bool false) (z7_1 h x))(a5:RD n 79 [pv p 0] (z7_1 h x)=some (.tuple #[],h1)):∃ H,Fn n 225 [pv p 0] h (z72V) H∧tl1 h1 h1.wm h.nx h1.nx H:=
 exV (kJ (ko hp) (kx hb hx)) [aS 72 z72,.l 0 3 4,bF,.l 0 3 1,.l 0 155 0,yF a0,yN (h.nx+1),.q (.l 0 3 4),.q (.l 0 3 1),.q (.l 0 155 0),yQ (iv T),.v 1,.l 0 155 0,.l 0 3 1,iA 155 199 4 b T k,.m 1 199 0,bS 0 199 z7_9,.w 3 199 0 (z7_2 x),yN (h.nx+2),.j 1,.q (.l 0 155 0),.q (.l 0 3 1),.q (.m 1 199 0),.j 3,.l 3 3 0,yF a1,yF a2,yF a3,yP a4,yC a5 (kI (ko gh1_hnx)),.w 0 72 0 (z72V),.r 0 72 10] []
theorem qt_dp(h h1:Heap)(p b k T E d:Nat)(ts:List Tk)(x:Tk)(n:Nat)(hp:h.get p=some (z7_3 b T k E d))(hb:h.get b=some (z7_7 ts))(hx:ts[k]? =some x)(_h1:k < T)(_h2:T < 1000)(_hl:p < h.nx)(_hb:b < h.nx)(_hpb:b≠p)(gh1_hnx:h1.get h.nx=some (.row 72 z72 0 false))(_lhnxh1:h.nx < h1.nx)(a0:decide (((k:Int):Int)≥T)=false)(a1:(((x.k:Int):Int)==1)=false)(a2:(((x.k:Int):Int)==2)=false)(a3:(((x.k:Int):Int)==3)=false)(a4:Pu n 152 [pv p 0,.string ⟨#[40]⟩] (.bool true) (z7_1 h x))(a5:RD n 208 [pv p 0] (pt (z7_1 h x) p 160 (z7_4 b T k E d))=some (.bool false,h1)):∃ H,Fn n 225 [pv p 0] h (z72V) H∧tl1 h1 h1.wm h.nx h1.nx H:=
 exV (kJ (ko hp) (kx hb hx)) [aS 72 z72,.l 0 3 4,bF,.l 0 3 1,.l 0 155 0,yF a0,yN (h.nx+1),.q (.l 0 3 4),.q (.l 0 3 1),.q (.l 0 155 0),yQ (iv T),.v 1,.l 0 155 0,.l 0 3 1,iA 155 199 4 b T k,.m 1 199 0,bS 0 199 z7_9,.w 3 199 0 (z7_2 x),yN (h.nx+2),.j 1,.q (.l 0 155 0),.q (.l 0 3 1),.q (.m 1 199 0),.j 3,.l 3 3 0,yF a1,yF a2,yF a3,yP a4,.l 0 3 1,yW ((k:Int)+1),.w 0 3 1 (z7_8 k),yC a5 (kI (ko gh1_hnx)),.w 0 72 0 (z72V),.r 0 72 10] []
theorem qt_in(h h1 h2 h3:Heap)(p b k T E d k3 d3 c3 w3:Nat)(ts:List Tk)(x:Tk)(n:Nat)(y:Hd)(yr:Option Addr)(yn:Nat)(hp:h.get p=some (z7_3 b T k E d))(hb:h.get b=some (z7_7 ts))(hx:ts[k]? =some x)(_h1:k < T)(_h2:T < 1000)(_hl:p < h.nx)(_hb:b < h.nx)(_hpb:b≠p)(gh2_p:h2.get p=some (.row 160 [sv b 0 T T,iv (k3:Int),iv E,iv (d3:Int),iv (c3:Int),iv (w3:Int)] 0 false))(_lph2:p < h2.nx)(_hd3:d3 < 1000)(gh3_hnx:h3.get h.nx=some (.row 72 z72 0 false))(_lhnxh3:h.nx < h3.nx)(gh3_h2nx:h3.get h2.nx=some (.row 72 (ndL y yr yn) 0 false))(a0:decide (((k:Int):Int)≥T)=false)(a1:(((x.k:Int):Int)==1)=false)(a2:(((x.k:Int):Int)==2)=false)(a3:(((x.k:Int):Int)==3)=false)(a4:Pu n 152 [pv p 0,.string ⟨#[40]⟩] (.bool true) (z7_1 h x))(a5:RD n 208 [pv p 0] (pt (z7_1 h x) p 160 (z7_4 b T k E d))=some (.bool true,h1))(a6:RD n 78 [pv p 0] h1=some (ndV y yr yn,h2))(a7:RD n 233 [pv p 0] (pt (pt (al h2 72 z72) h2.nx 72 (ndL y yr yn)) p 160 [sv b 0 T T,iv (k3:Int),iv E,iv ((d3:Int) - 1),iv (c3:Int),iv (w3:Int)])=some (.tuple #[],h3)):∃ H,Fn n 225 [pv p 0] h (ndV y yr yn) H∧tl1 h3 h3.wm h.nx h3.nx H:=
 exV (kJ (ko hp) (kx hb hx)) [aS 72 z72,.l 0 3 4,bF,.l 0 3 1,.l 0 155 0,yF a0,yN (h.nx+1),.q (.l 0 3 4),.q (.l 0 3 1),.q (.l 0 155 0),yQ (iv T),.v 1,.l 0 155 0,.l 0 3 1,iA 155 199 4 b T k,.m 1 199 0,bS 0 199 z7_9,.w 3 199 0 (z7_2 x),yN (h.nx+2),.j 1,.q (.l 0 155 0),.q (.l 0 3 1),.q (.m 1 199 0),.j 3,.l 3 3 0,yF a1,yF a2,yF a3,yP a4,.l 0 3 1,yW ((k:Int)+1),.w 0 3 1 (z7_8 k),yC a5 (kZ h1),yC a6 (kI (ko gh2_p)),aS 72 z72,.w 1 72 0 (ndV y yr yn),.l 0 3 3,yW ((d3:Int) - 1),.w 0 3 3 (iv ((d3:Int) - 1)),yC a7 (kI (ko gh3_h2nx)),.g 0 72 0 10,.s (kI (ko gh3_hnx)),.w 0 72 0 (ndV y yr yn),.r 0 72 10] []
end
end Go.PanE
namespace Go.PanE
open Go.Proofs
noncomputable section
abbrev z8_14(x:Tk):List Value:=[iv (x.k:Int),iv (x.n:Int),.string ⟨⟨x.t⟩⟩,iv (x.at_:Int)]
abbrev z8_1(h:Heap)(x:Tk):Heap:=al (al h.fresh 199 (z8_14 x)) 72 z72
abbrev z8_2(p:Nat)(x:Tk):List Value:=[pv p 0,.agg #[iv (x.k:Int),iv (x.n:Int),.string ⟨⟨x.t⟩⟩,iv (x.at_:Int)]]
abbrev z8_3(b T k E d:Nat):List Value:=[sv b 0 T T,iv ((k:Int)+1),iv E,iv (d:Int),iv 0,iv 0]
abbrev z8_4:List Value:=[iv 0,iv 0,.bool false]
abbrev z8_5(b T k E d:Nat):List Value:=[sv b 0 T T,iv (((k:Int)+1)+1),iv E,iv (d:Int),iv 0,iv 0]
abbrev z8_6(r:Option Addr)(T k E d:Nat):List Value:=[.slice r T T,iv ((k:Int)+1),iv E,iv (d:Int),iv 0,iv 0]
abbrev z8_7(a c:Int):Value:=.agg #[iv a,iv c,.bool true]
abbrev z8_8(b T k E d:Nat):AObj:=.row 160 [sv b 0 T T,iv (k:Int),iv E,iv (d:Int),iv 0,iv 0] 0 false
abbrev z8_9(r:Option Addr)(T k E d:Nat):AObj:=.row 160 [.slice r T T,iv (k:Int),iv E,iv (d:Int),iv 0,iv 0] 0 false
abbrev z8_10(k:Nat):Value:=iv ((k:Int)+1)
abbrev z8_11:Value:=.agg #[iv 1,iv 1,iv 1,.string ⟨#[]⟩,iv 0,iv 0,iv 0,iv 0,.string ⟨#[]⟩,.slice none 0 0]
abbrev z8_12:Value:=.agg #[iv 1,iv 1,iv 0,.string ⟨#[]⟩,iv 0,iv 0,iv 0,iv 0,.string ⟨#[]⟩,.slice none 0 0]
abbrev z8_13(h:Heap)(x:Tk)(a c:Int):Heap:=pt (al (z8_1 h x) 78 z8_4) (h.nx+2) 78 [iv a,iv c,.bool true]
abbrev z8_15(p:Nat):List Value:=[pv p 0,.string ⟨#[58]⟩]
abbrev z8_16(k:Nat):Value:=iv (((k:Int)+1)+1)
abbrev z8_17(a c:Int):Value:=.agg #[iv 2,iv 0,iv 0,.string ⟨#[]⟩,iv a,iv c,iv 0,iv 0,.string ⟨#[]⟩,.slice none 0 0]
abbrev z8_18(r0 c0 r1 c1:Int):Value:=.agg #[iv 3,iv 0,iv 0,.string ⟨#[]⟩,iv r0,iv c0,iv r1,iv c1,.string ⟨#[]⟩,.slice none 0 0]
abbrev z8_19(h:Heap)(x:Tk)(a c:Int)(p b T k E d:Nat):Heap:=pt (pt (z8_13 h x a c) p 160 (z8_3 b T k E d)) p 160 (z8_5 b T k E d)
theorem qn_c(h h1:Heap)(p n:Nat)(x:Tk)(y:Hd)(yr:Option Addr)(yn:Nat)(gh1_hnx1:h1.get (h.nx+1)=some (.row 72 z72 0 false))(_lhnx1h1:h.nx+1 < h1.nx)(a0:Pu n 240 [pv p 0] (.bool true) (z8_1 h x))(a1:RD n 241 (z8_2 p x) (z8_1 h x)=some (ndV y yr yn,h1)):∃ H,Fn n 232 (z8_2 p x) h (ndV y yr yn) H∧tl1 h1 h1.wm (h.nx+1) h1.nx H:=
 exV (kZ h) [aS 199 (z8_14 x),aS 72 z72,yP a0,.g 0 199 0 4,yC a1 (kI (ko gh1_hnx1)),.w 0 72 0 (ndV y yr yn),.r 0 72 10] []
theorem qn_t(h:Heap)(p k T E d n:Nat)(r:Option Addr)(x:Tk)(hp:h.get p=some (z8_9 r T k E d))(_hl:p < h.nx)(_hk:k < 1000)(a0:Pu n 240 [pv p 0] (.bool false) (z8_1 h x))(a1:bqS ⟨⟨x.t⟩⟩ ⟨#[84,82,85,69]⟩=true)(a2:bqS ⟨⟨x.t⟩⟩ ⟨#[84,82,85,69]⟩=true):∃ H,Fn n 232 (z8_2 p x) h z8_11 H∧tw1 h h.fresh.wm p (h.nx+3) H (H.get p=some (.row 160 (z8_6 r T k E d) 0 false)):=
 exV (kI (ko hp)) [aS 199 (z8_14 x),aS 72 z72,yP a0,.l 1 9 2,yT a1,.l 0 3 1,yW ((k:Int)+1),.w 0 3 1 (z8_10 k),aS 27 [iv 0,iv 0,.string ⟨#[]⟩],.w 3 27 0 (.agg #[iv 1,iv 0,.string ⟨#[]⟩]),.l 1 9 2,yT a2,.w 3 2 1 (iv 1),.g 3 27 0 3,.w 2 72 0 z8_11,.r 2 72 10] [0]
theorem qn_f(h:Heap)(p k T E d n:Nat)(r:Option Addr)(x:Tk)(hp:h.get p=some (z8_9 r T k E d))(_hl:p < h.nx)(_hk:k < 1000)(a0:Pu n 240 [pv p 0] (.bool false) (z8_1 h x))(a1:bqS ⟨⟨x.t⟩⟩ ⟨#[84,82,85,69]⟩=false)(a2:bqS ⟨⟨x.t⟩⟩ ⟨#[70,65,76,83,69]⟩=true)(a3:bqS ⟨⟨x.t⟩⟩ ⟨#[84,82,85,69]⟩=false):∃ H,Fn n 232 (z8_2 p x) h z8_12 H∧tw1 h h.fresh.wm p (h.nx+3) H (H.get p=some (.row 160 (z8_6 r T k E d) 0 false)):=
 exV (kI (ko hp)) [aS 199 (z8_14 x),aS 72 z72,yP a0,.l 1 9 2,yF a1,.l 1 9 2,yT a2,.l 0 3 1,yW ((k:Int)+1),.w 0 3 1 (z8_10 k),aS 27 [iv 0,iv 0,.string ⟨#[]⟩],.w 3 27 0 (.agg #[iv 1,iv 0,.string ⟨#[]⟩]),.l 1 9 2,yF a3,.g 3 27 0 3,.w 2 72 0 z8_12,.r 2 72 10] [0]
theorem qn_e(h h1:Heap)(p n:Nat)(x:Tk)(a c:Int)(gh1_hnx1:h1.get (h.nx+1)=some (.row 72 z72 0 false))(_lhnx1h1:h.nx+1 < h1.nx)(a0:Pu n 240 [pv p 0] (.bool false) (z8_1 h x))(a1:bqS ⟨⟨x.t⟩⟩ ⟨#[84,82,85,69]⟩=false)(a2:bqS ⟨⟨x.t⟩⟩ ⟨#[70,65,76,83,69]⟩=false)(a3:Pu n 30 [.string ⟨⟨x.t⟩⟩] (.agg #[iv a,iv c,.bool false]) (z8_1 h x))(a4:RD n 79 [pv p 0] (pt (al (z8_1 h x) 78 z8_4) (h.nx+2) 78 [iv a,iv c,.bool false])=some (.tuple #[],h1)):∃ H,Fn n 232 (z8_2 p x) h (z72V) H∧tl1 h1 h1.wm (h.nx+1) h1.nx H:=
 exV (kZ h) [aS 199 (z8_14 x),aS 72 z72,yP a0,.l 0 9 2,yF a1,.l 0 9 2,yF a2,.l 0 9 2,yP a3,aS 78 z8_4,.w 2 78 0 (.agg #[iv a,iv c,.bool false]),.l 2 4 2,yC a4 (kI (ko gh1_hnx1)),.w 0 72 0 (z72V),.r 0 72 10] []
theorem qn_r(h:Heap)(p k T E d n:Nat)(r:Option Addr)(x:Tk)(a c:Int)(hp:h.get p=some (z8_9 r T k E d))(_hl:p < h.nx)(_hk:k < 1000)(a0:Pu n 240 [pv p 0] (.bool false) (z8_1 h x))(a1:bqS ⟨⟨x.t⟩⟩ ⟨#[84,82,85,69]⟩=false)(a2:bqS ⟨⟨x.t⟩⟩ ⟨#[70,65,76,83,69]⟩=false)(a3:Pu n 30 [.string ⟨⟨x.t⟩⟩] (z8_7 a c) (z8_1 h x))(a4:Pu n 152 (z8_15 p) (.bool false) (pt (z8_13 h x a c) p 160 (z8_6 r T k E d))):∃ H,Fn n 232 (z8_2 p x) h (z8_17 a c) H∧tw1 h h.fresh.wm p (h.nx+3) H (H.get p=some (.row 160 (z8_6 r T k E d) 0 false)):=
 exV (kI (ko hp)) [aS 199 (z8_14 x),aS 72 z72,yP a0,.l 1 9 2,yF a1,.l 1 9 2,yF a2,.l 1 9 2,yP a3,aS 78 z8_4,.w 3 78 0 (z8_7 a c),.l 3 4 2,.l 0 3 1,yW ((k:Int)+1),.w 0 3 1 (z8_10 k),yP a4,.g 3 29 0 2,.w 2 72 0 (z8_17 a c),.r 2 72 10] [0]
theorem qn_0(h h1:Heap)(p k T E d n:Nat)(r:Option Addr)(x:Tk)(a c:Int)(hp:h.get p=some (z8_9 r T k E d))(_hl:p < h.nx)(_hk:k < 1000)(gh1_hnx1:h1.get (h.nx+1)=some (.row 72 z72 0 false))(_lhnx1h1:h.nx+1 < h1.nx)(a0:Pu n 240 [pv p 0] (.bool false) (z8_1 h x))(a1:bqS ⟨⟨x.t⟩⟩ ⟨#[84,82,85,69]⟩=false)(a2:bqS ⟨⟨x.t⟩⟩ ⟨#[70,65,76,83,69]⟩=false)(a3:Pu n 30 [.string ⟨⟨x.t⟩⟩] (z8_7 a c) (z8_1 h x))(a4:Pu n 152 (z8_15 p) (.bool true) (pt (z8_13 h x a c) p 160 (z8_6 r T k E d)))(a5:decide ((((k:Int)+1)+1:Int)≥T)=true)(a6:RD n 79 [pv p 0] (pt (pt (z8_13 h x a c) p 160 (z8_6 r T k E d)) p 160 [.slice r T T,iv (((k:Int)+1)+1),iv E,iv (d:Int),iv 0,iv 0])=some (.tuple #[],h1)):∃ H,Fn n 232 (z8_2 p x) h (z72V) H∧tl1 h1 h1.wm (h.nx+1) h1.nx H:=
 exV (kI (ko hp)) [aS 199 (z8_14 x),aS 72 z72,yP a0,.l 1 9 2,yF a1,.l 1 9 2,yF a2,.l 1 9 2,yP a3,aS 78 z8_4,.w 3 78 0 (z8_7 a c),.l 3 4 2,.l 0 3 1,yW ((k:Int)+1),.w 0 3 1 (z8_10 k),yP a4,.l 0 3 1,yW (((k:Int)+1)+1),.w 0 3 1 (z8_16 k),.l 0 3 1,.l 0 155 0,yT a5,yN (h.nx+3),.q (.l 0 3 1),.q (.l 0 155 0),yQ (iv T),yC a6 (kI (ko gh1_hnx1)),.w 0 72 0 (z72V),.r 0 72 10] []
theorem qn_1(h h1:Heap)(p b k T E d n:Nat)(ts:List Tk)(x y:Tk)(a c:Int)(hp:h.get p=some (z8_8 b T k E d))(hb:h.get b=some (.row 199 (tkC ts) 4 false))(hy:ts[k+1+1]? =some y)(_h1:k+1+1 < T)(_h2:T < 1000)(_hl:p < h.nx)(_hb:b < h.nx)(_hpb:b≠p)(gh1_hnx1:h1.get (h.nx+1)=some (.row 72 z72 0 false))(_lhnx1h1:h.nx+1 < h1.nx)(a0:Pu n 240 [pv p 0] (.bool false) (z8_1 h x))(a1:bqS ⟨⟨x.t⟩⟩ ⟨#[84,82,85,69]⟩=false)(a2:bqS ⟨⟨x.t⟩⟩ ⟨#[70,65,76,83,69]⟩=false)(a3:Pu n 30 [.string ⟨⟨x.t⟩⟩] (z8_7 a c) (z8_1 h x))(a4:Pu n 152 (z8_15 p) (.bool true) (pt (z8_13 h x a c) p 160 (z8_3 b T k E d)))(a5:decide ((((k:Int)+1)+1:Int)≥T)=false)(a6:(((y.k:Int):Int) !=3)=true)(a7:RD n 79 [pv p 0] (z8_19 h x a c p b T k E d)=some (.tuple #[],h1)):∃ H,Fn n 232 (z8_2 p x) h (z72V) H∧tl1 h1 h1.wm (h.nx+1) h1.nx H:=
 exV (kJ (ko hp) (kx hb hy)) [aS 199 (z8_14 x),aS 72 z72,yP a0,.l 2 9 2,yF a1,.l 2 9 2,yF a2,.l 2 9 2,yP a3,aS 78 z8_4,.w 4 78 0 (z8_7 a c),.l 4 4 2,.l 0 3 1,yW ((k:Int)+1),.w 0 3 1 (z8_10 k),yP a4,.l 0 3 1,yW (((k:Int)+1)+1),.w 0 3 1 (z8_16 k),.l 0 3 1,.l 0 155 0,yF a5,.l 0 155 0,.l 0 3 1,iC 155 199 4 b T k,.k 1 3 0,yT a6,yN (h.nx+3),.q (.l 0 3 1),.q (.l 0 155 0),yQ (iv T),.q (.l 0 155 0),.q (.l 0 3 1),.q (.k 1 3 0),yC a7 (kI (ko gh1_hnx1)),.w 0 72 0 (z72V),.r 0 72 10] []
theorem qn_2(h h1:Heap)(p b k T E d n:Nat)(ts:List Tk)(x y:Tk)(a c:Int)(hp:h.get p=some (z8_8 b T k E d))(hb:h.get b=some (.row 199 (tkC ts) 4 false))(hy:ts[k+1+1]? =some y)(_h1:k+1+1 < T)(_h2:T < 1000)(_hl:p < h.nx)(_hb:b < h.nx)(_hpb:b≠p)(gh1_hnx1:h1.get (h.nx+1)=some (.row 72 z72 0 false))(_lhnx1h1:h.nx+1 < h1.nx)(a0:Pu n 240 [pv p 0] (.bool false) (z8_1 h x))(a1:bqS ⟨⟨x.t⟩⟩ ⟨#[84,82,85,69]⟩=false)(a2:bqS ⟨⟨x.t⟩⟩ ⟨#[70,65,76,83,69]⟩=false)(a3:Pu n 30 [.string ⟨⟨x.t⟩⟩] (z8_7 a c) (z8_1 h x))(a4:Pu n 152 (z8_15 p) (.bool true) (pt (z8_13 h x a c) p 160 (z8_3 b T k E d)))(a5:decide ((((k:Int)+1)+1:Int)≥T)=false)(a6:(((y.k:Int):Int) !=3)=false)(a7:Pu n 240 [pv p 0] (.bool true) (z8_19 h x a c p b T k E d))(a8:RD n 79 [pv p 0] (z8_19 h x a c p b T k E d)=some (.tuple #[],h1)):∃ H,Fn n 232 (z8_2 p x) h (z72V) H∧tl1 h1 h1.wm (h.nx+1) h1.nx H:=
 exV (kJ (ko hp) (kx hb hy)) [aS 199 (z8_14 x),aS 72 z72,yP a0,.l 2 9 2,yF a1,.l 2 9 2,yF a2,.l 2 9 2,yP a3,aS 78 z8_4,.w 4 78 0 (z8_7 a c),.l 4 4 2,.l 0 3 1,yW ((k:Int)+1),.w 0 3 1 (z8_10 k),yP a4,.l 0 3 1,yW (((k:Int)+1)+1),.w 0 3 1 (z8_16 k),.l 0 3 1,.l 0 155 0,yF a5,.l 0 155 0,.l 0 3 1,iC 155 199 4 b T k,.k 1 3 0,yF a6,yP a7,yN (h.nx+3),.q (.l 0 3 1),.q (.l 0 155 0),yQ (iv T),.q (.l 0 155 0),.q (.l 0 3 1),.q (.k 1 3 0),yC a8 (kI (ko gh1_hnx1)),.w 0 72 0 (z72V),.r 0 72 10] []
theorem qn_3(h h1:Heap)(p b k T E d n:Nat)(ts:List Tk)(x y:Tk)(a c:Int)(u w:Int)(hp:h.get p=some (z8_8 b T k E d))(hb:h.get b=some (.row 199 (tkC ts) 4 false))(hy:ts[k+1+1]? =some y)(_h1:k+1+1 < T)(_h2:T < 1000)(_hl:p < h.nx)(_hb:b < h.nx)(_hpb:b≠p)(gh1_hnx1:h1.get (h.nx+1)=some (.row 72 z72 0 false))(_lhnx1h1:h.nx+1 < h1.nx)(a0:Pu n 240 [pv p 0] (.bool false) (z8_1 h x))(a1:bqS ⟨⟨x.t⟩⟩ ⟨#[84,82,85,69]⟩=false)(a2:bqS ⟨⟨x.t⟩⟩ ⟨#[70,65,76,83,69]⟩=false)(a3:Pu n 30 [.string ⟨⟨x.t⟩⟩] (z8_7 a c) (z8_1 h x))(a4:Pu n 152 (z8_15 p) (.bool true) (pt (z8_13 h x a c) p 160 (z8_3 b T k E d)))(a5:decide ((((k:Int)+1)+1:Int)≥T)=false)(a6:(((y.k:Int):Int) !=3)=false)(a7:Pu n 240 [pv p 0] (.bool false) (z8_19 h x a c p b T k E d))(a8:Pu n 30 [.string ⟨⟨y.t⟩⟩] (.agg #[iv u,iv w,.bool false]) (reserve 1 (z8_19 h x a c p b T k E d)))(a9:RD n 79 [pv p 0] (pt (pt (reserve 1 (z8_19 h x a c p b T k E d)) (h.nx+3) 78 z8_4) (h.nx+3) 78 [iv u,iv w,.bool false])=some (.tuple #[],h1)):∃ H,Fn n 232 (z8_2 p x) h (z72V) H∧tl1 h1 h1.wm (h.nx+1) h1.nx H:=
 exV (kJ (ko hp) (kx hb hy)) [aS 199 (z8_14 x),aS 72 z72,yP a0,.l 2 9 2,yF a1,.l 2 9 2,yF a2,.l 2 9 2,yP a3,aS 78 z8_4,.w 4 78 0 (z8_7 a c),.l 4 4 2,.l 0 3 1,yW ((k:Int)+1),.w 0 3 1 (z8_10 k),yP a4,.l 0 3 1,yW (((k:Int)+1)+1),.w 0 3 1 (z8_16 k),.l 0 3 1,.l 0 155 0,yF a5,.l 0 155 0,.l 0 3 1,iC 155 199 4 b T k,.k 1 3 0,yF a6,yP a7,yN (h.nx+3),.q (.l 0 3 1),.q (.l 0 155 0),yQ (iv T),.q (.l 0 155 0),.q (.l 0 3 1),.q (.k 1 3 0),.v 1,.l 0 155 0,.l 0 3 1,iC 155 199 4 b T k,.k 1 9 1,yP a8,bS 0 78 z8_4,.w 5 78 0 (.agg #[iv u,iv w,.bool false]),yN (h.nx+4),.j 6,.q (.l 0 155 0),.q (.l 0 3 1),.q (.k 1 9 1),.j 8,.l 5 4 2,yC a9 (kI (ko gh1_hnx1)),.w 0 72 0 (z72V),.r 0 72 10] []
theorem qn_g(h:Heap)(p b k T E d n:Nat)(ts:List Tk)(x y:Tk)(a c u w r0 c0 r1 c1:Int)(ok:Bool)(hp:h.get p=some (z8_8 b T k E d))(hb:h.get b=some (.row 199 (tkC ts) 4 false))(hy:ts[k+1+1]? =some y)(_h1:k+1+1 < T)(_h2:T < 1000)(_hl:p < h.nx)(_hb:b < h.nx)(_hpb:b≠p)(a0:Pu n 240 [pv p 0] (.bool false) (z8_1 h x))(a1:bqS ⟨⟨x.t⟩⟩ ⟨#[84,82,85,69]⟩=false)(a2:bqS ⟨⟨x.t⟩⟩ ⟨#[70,65,76,83,69]⟩=false)(a3:Pu n 30 [.string ⟨⟨x.t⟩⟩] (z8_7 a c) (z8_1 h x))(a4:Pu n 152 (z8_15 p) (.bool true) (pt (z8_13 h x a c) p 160 (z8_3 b T k E d)))(a5:decide ((((k:Int)+1)+1:Int)≥T)=false)(a6:(((y.k:Int):Int) !=3)=false)(a7:Pu n 240 [pv p 0] (.bool false) (z8_19 h x a c p b T k E d))(a8:Pu n 30 [.string ⟨⟨y.t⟩⟩] (.agg #[iv u,iv w,.bool true]) (reserve 1 (z8_19 h x a c p b T k E d)))(a9:Pu n 242 [.agg #[iv a,iv c],.agg #[iv u,iv w]] (.agg #[iv r0,iv c0,iv r1,iv c1,.bool ok]) (pt (pt (pt (reserve 1 (z8_19 h x a c p b T k E d)) (h.nx+3) 78 z8_4) (h.nx+3) 78 [iv u,iv w,.bool true]) p 160 [sv b 0 T T,iv ((((k:Int)+1)+1)+1),iv E,iv (d:Int),iv 0,iv 0])):∃ H,Fn n 232 (z8_2 p x) h (z8_18 r0 c0 r1 c1) H∧tw1 h h.fresh.wm p (h.nx+4) H (H.get p=some (.row 160 [sv b 0 T T,iv ((((k:Int)+1)+1)+1),iv E,iv (d:Int),iv 0,iv 0] 0 false)):=
 exV (kJ (ko hp) (kx hb hy)) [aS 199 (z8_14 x),aS 72 z72,yP a0,.l 2 9 2,yF a1,.l 2 9 2,yF a2,.l 2 9 2,yP a3,aS 78 z8_4,.w 4 78 0 (z8_7 a c),.l 4 4 2,.l 0 3 1,yW ((k:Int)+1),.w 0 3 1 (z8_10 k),yP a4,.l 0 3 1,yW (((k:Int)+1)+1),.w 0 3 1 (z8_16 k),.l 0 3 1,.l 0 155 0,yF a5,.l 0 155 0,.l 0 3 1,iC 155 199 4 b T k,.k 1 3 0,yF a6,yP a7,yN (h.nx+3),.q (.l 0 3 1),.q (.l 0 155 0),yQ (iv T),.q (.l 0 155 0),.q (.l 0 3 1),.q (.k 1 3 0),.v 1,.l 0 155 0,.l 0 3 1,iC 155 199 4 b T k,.k 1 9 1,yP a8,bS 0 78 z8_4,.w 5 78 0 (.agg #[iv u,iv w,.bool true]),yN (h.nx+4),.j 6,.q (.l 0 155 0),.q (.l 0 3 1),.q (.k 1 9 1),.j 8,.l 5 4 2,.l 0 3 1,yW ((((k:Int)+1)+1)+1),.w 0 3 1 (iv ((((k:Int)+1)+1)+1)),.g 4 29 0 2,.g 5 29 0 2,yP a9,.w 3 72 0 (z8_18 r0 c0 r1 c1),.r 3 72 10] [0]
end
end Go.PanE
namespace Go.PanE
open Go.Proofs
noncomputable section
abbrev z9_1(x:Tk):Value:=.agg #[iv 6,iv 0,iv 0,.string ⟨#[]⟩,iv 0,iv 0,iv 0,iv 0,.string ⟨⟨x.t⟩⟩,.slice none 0 0]
abbrev z9_2(x:Tk):List Value:=[iv (x.k:Int),iv (x.n:Int),.string ⟨⟨x.t⟩⟩,iv (x.at_:Int)]
abbrev z9_3(h:Heap)(a c ua uc:Nat):Heap:=al (al (al h.fresh 29 [iv (a:Int),iv (c:Int)]) 29 [iv (ua:Int),iv (uc:Int)]) 322 [iv 0,iv 0,iv 0,iv 0,.bool false]
abbrev z9_4(a ua c uc:Nat):Value:=.agg #[iv ((min a ua:Nat):Int),iv ((min c uc:Nat):Int),iv ((max a ua:Nat):Int),iv ((max c uc:Nat):Int),.bool true]
abbrev z9_5(p:Nat)(x:Tk):List Value:=[pv p 0,.agg #[iv (x.k:Int),iv (x.n:Int),.string ⟨⟨x.t⟩⟩,iv (x.at_:Int)]]
theorem qk_long(h h1:Heap)(p n:Nat)(x:Tk)(gh1_hnx1:h1.get (h.nx+1)=some (.row 72 z72 0 false))(_lhnx1h1:h.nx+1 < h1.nx)(a0:decide (((⟨⟨x.t⟩⟩:ByteArray).data.toList.length:Int)>8)=true)(a1:RD n 79 [pv p 0] (al (al h.fresh 199 (z9_2 x)) 72 z72)=some (.tuple #[],h1)):∃ H,Fn n 241 (z9_5 p x) h (z72V) H∧tl1 h1 h1.wm (h.nx+1) h1.nx H:=
 exV (kZ h) [aS 199 (z9_2 x),aS 72 z72,.l 0 9 2,yT a0,yC a1 (kI (ko gh1_hnx1)),.w 0 72 0 (z72V),.r 0 72 10] []
theorem qk_nil(h:Heap)(p k T E d n:Nat)(r:Option Addr)(x:Tk)(hp:h.get p=some (.row 160 [.slice r T T,iv (k:Int),iv E,iv (d:Int),iv 0,iv 0] 0 false))(_hl:p < h.nx)(_hk:k < 1000)(a0:decide (((⟨⟨x.t⟩⟩:ByteArray).data.toList.length:Int)>8)=false)(a1:Pu n 152 [pv p 0,.string ⟨#[41]⟩] (.bool true) (pt (al (pt (al (al h.fresh 199 (z9_2 x)) 72 z72) p 160 [.slice r T T,iv ((k:Int)+2),iv E,iv (d:Int),iv 0,iv 0]) 72 z72) (h.nx+2) 72 [iv 6,iv 0,iv 0,.string ⟨#[]⟩,iv 0,iv 0,iv 0,iv 0,.string ⟨⟨x.t⟩⟩,.slice none 0 0])):∃ H,Fn n 241 (z9_5 p x) h (z9_1 x) H∧tw1 h h.fresh.wm p (h.nx+3) H (H.get p=some (.row 160 [.slice r T T,iv (((k:Int)+2)+1),iv E,iv (d:Int),iv 0,iv 0] 0 false)):=
 exV (kI (ko hp)) [aS 199 (z9_2 x),aS 72 z72,.l 1 9 2,yF a0,.l 0 3 1,yW ((k:Int)+2),.w 0 3 1 (iv ((k:Int)+2)),.l 1 9 2,aS 72 z72,.w 3 72 0 (z9_1 x),yP a1,.l 0 3 1,yW (((k:Int)+2)+1),.w 0 3 1 (iv (((k:Int)+2)+1)),.g 3 72 0 10,.w 2 72 0 (z9_1 x),.r 2 72 10] [0]
theorem made2(h:Heap)(a c ua uc:Nat)(n:Nat)(a0:Pu n 21 [.agg #[iv (a:Int),iv (c:Int)]] (.bool true) (z9_3 h a c ua uc))(a1:Pu n 21 [.agg #[iv (ua:Int),iv (uc:Int)]] (.bool true) (z9_3 h a c ua uc))(a2:minA (fun y x=>decide (y < x)) (iv (a:Int)) [iv (ua:Int)]=some (iv ((min a ua:Nat):Int)))(a3:minA (fun y x=>decide (y < x)) (iv (c:Int)) [iv (uc:Int)]=some (iv ((min c uc:Nat):Int)))(a4:minA (fun y x=>decide (y>x)) (iv (a:Int)) [iv (ua:Int)]=some (iv ((max a ua:Nat):Int)))(a5:minA (fun y x=>decide (y>x)) (iv (c:Int)) [iv (uc:Int)]=some (iv ((max c uc:Nat):Int))):Fn n 242 [.agg #[iv (a:Int),iv (c:Int)],.agg #[iv (ua:Int),iv (uc:Int)]] h (z9_4 a ua c uc) (pt (z9_3 h a c ua uc) (h.nx+2) 322 [iv ((min a ua:Nat):Int),iv ((min c uc:Nat):Int),iv ((max a ua:Nat):Int),iv ((max c uc:Nat):Int),.bool true]):=
 fnV (kZ h) [aS 29 [iv (a:Int),iv (c:Int)],aS 29 [iv (ua:Int),iv (uc:Int)],aS 322 [iv 0,iv 0,iv 0,iv 0,.bool false],.g 0 29 0 2,yP a0,.g 1 29 0 2,yP a1,.l 0 3 0,.l 1 3 0,yE a2,.l 0 3 1,.l 1 3 1,yE a3,.l 0 3 0,.l 1 3 0,yE a4,.l 0 3 1,.l 1 3 1,yE a5,.w 2 322 0 (z9_4 a ua c uc),.r 2 322 5]
end
end Go.PanE
namespace Go.PanE
open Go.Proofs
/-- A token as a value. -/
abbrev tkV(x:Tk):Value:=.agg #[.int .i64 (x.k:Int),.int .i64 (x.n:Int),.string ⟨⟨x.t⟩⟩,.int .i64 (x.at_:Int)]
abbrev tkL(x:Tk):List Value:=[.int .i64 (x.k:Int),.int .i64 (x.n:Int),.string ⟨⟨x.t⟩⟩,.int .i64 (x.at_:Int)]
def LawN(m:Int)(p b:Nat)(ts:List Tk)(E:Nat)(N:Nat)(f:FuncId)(d:Nat)(R:Tk→PR):Prop:=
 ∀ (n:Nat) (h:Heap) (k:Nat) (x:Tk),N≤n→ts[k]? =some x→QSt m h p b ts E k d 0 0→∃ v h',RD n f [pv p 0,tkV x] h=some (v,h')∧ResQ m h p b ts E d (R x k) v h'
theorem Kp.rs{h g:Heap}(a:Kp h g)(k:Nat):Kp h (reserve k g):=
 ⟨by rw[Heap.nx_reserve];have:=a.nx;omega,fun c hc=>(Heap.get_reserve k _ (Nat.lt_of_lt_of_le hc a.nx)).trans (a.get c hc),by rw[Heap.wm_reserve];exact a.wm⟩
section
variable {m:Int} {h:Heap} {p b:Nat} {ts:List Tk} {E k d c w:Nat}
theorem resq_leaf{x:Hd}{k':Nat}{X:Option (Value×Heap)}{H:Heap}(e:X=some (finish h (ndV x none 0) H))(s0:QSt m h p b ts E k d 0 0)(g:∀ c,c < h.nx→c≠p→H.get c=h.get c)(nx:h.nx≤H.nx)(wp:H.wm≤p)
  (w:H.get p=some (.row 160 [tsV b ts,iv ((k':Nat):Int),iv (E:Int),iv ((d:Nat):Int),iv ((0:Nat):Int),iv ((0:Nat):Int)] 0 false)) (hk:k'≤ts.length):
  ∃ v h',X=some (v,h')∧ResQ m h p b ts E d (.ok (.node x []) k') v h':=by
 have F:Fr h H p:=⟨nx,g⟩
 exact resq (lo:=0) (hk:=H) e s0 ⟨nx,g⟩ (fun _ _ _=>rfl) (Nat.le_refl _) wp ⟨NodeC.leaf _ _ _,s0.fr F w hk⟩
theorem resq_err{k' d' c' pos lo:Nat}{X:Option (Value×Heap)}{H h1:Heap}(e:X=some (finish h z72V H))(s0:QSt m h p b ts E k d c w)(F:Fr h.fresh h1 p)(g:∀ c,c < h1.nx→c≠lo→H.get c=h1.get c)(hlo:h.nx≤lo)(nH:H.nx=h1.nx)(wp:H.wm≤p)
  (hc:c'≠0) (hd:d≤d') (hd':d'≤41) (st:QSt m h1 p b ts E k' d' c' pos):∃ v h',X=some (v,h')∧ResQ m h p b ts E d (.err pos c') v h':=
 resq (x:=hdZ) (r:=none) (l:=0) (lo:=lo+1) e s0 F (fun c hc hd=>g c hc (by omega)) (by omega) wp ⟨hc,k',d',hd,hd',st⟩
theorem resq_on{x:Hd}{r:Option Addr}{l lo:Nat}{R:Res}{X:Option (Value×Heap)}{H h1:Heap}(hb:Heap)(e:X=some (finish h (ndV x r l) H))(s0:QSt m h p b ts E k d c w)(F:Fr h.fresh h1 p)(g:∀ c,c < h1.nx→c≠lo→H.get c=h1.get c)(hlo:h.nx≤lo)(hl2:lo < hb.nx)(nH:H.nx=h1.nx)(wp:H.wm≤p)
  (RR:ResR m hb h1 h1 p b ts E d R x r l):∃ v h',X=some (v,h')∧ResQ m h p b ts E d R v h':=by
 refine resq (lo:=lo+1) e s0 F (fun c hc hd=>g c hc (by omega)) (by omega) wp ?_
 unfold ResR at RR ⊢
 split at RR
 next t k'=>
  refine⟨NodeC.mono (fun c o hc e=>?_) RR.1,RR.2⟩
  have h1:hb.nx≤c:=hc.1
  exact⟨⟨by omega,by have:=hc.2;omega⟩,(g c (Heap.lt_of_get e) (by omega)).trans e⟩
 next=>exact RR
end
/-- The memory in which part looks at a token. -/
def hT1(h:Heap)(x:Tk):Heap:=pt (pt (reserve 1 (al h.fresh 72 z72)) (h.nx+1) 199 [iv 0,iv 0,.string ⟨#[]⟩,iv 0]) (h.nx+1) 199 (tkL x)
theorem hT1_n(h:Heap):(reserve 1 (al h.fresh 72 z72)).nx=h.nx+2:=by rw[Heap.nx_reserve];rfl
theorem hT1_nx(h:Heap)(x:Tk):(hT1 h x).nx=h.nx+2:=hT1_n h
theorem hT1_kp(h:Heap)(x:Tk):Kp h.fresh (hT1 h x):=
 ((((Kp.refl h.fresh).al 72 z72).rs 1).pt (b:=h.nx+1) _ _ (by show h.nx≤h.nx+1;omega) (by rw[hT1_n];omega)).pt (b:=h.nx+1) _ _ (by show h.nx≤h.nx+1;omega) (by show h.nx+1 < (reserve 1 (al h.fresh 72 z72)).nx;rw[hT1_n];omega)
theorem hT1_get(h:Heap)(x:Tk):(hT1 h x).get h.nx=some (.row 72 z72 0 false):=
 gO (gO (gR (gN (h:=h.fresh))) (by rw[hT1_n];omega) (by omega)) (by show h.nx+1 < (reserve 1 (al h.fresh 72 z72)).nx;rw[hT1_n];omega) (by omega)
def hT3(h2:Heap)(p b T E k3 d3 c3 w3:Nat)(y:Hd)(r:Option Addr)(l:Nat):Heap:=pt (pt (al h2 72 z72) h2.nx 72 (ndL y r l)) p 160 [sv b 0 T T,iv ((k3:Nat):Int),iv (E:Int),iv (((d3:Nat):Int) - 1),iv ((c3:Nat):Int),iv ((w3:Nat):Int)]
section
variable {m:Int} {p b:Nat} {ts:List Tk} {E:Nat} {A:List UInt8→Option (Nat×Nat)}
theorem qpart_law{f:PR}{d N:Nat}(hd:d≤40)(hnm:LawN m p b ts E N 232 d (nameP ts E A f))(hf:d < 40→LawQ m p b ts E N 78 (d+1) f)(hf0:d=40→∀ k,f k= .err 0 14)(hN:3≤N):LawQ m p b ts E (N+1) 225 d (partP ts E A f):=by
 intro n h k hn s
 obtain⟨n,rfl⟩:∃ m,n=m+1:=⟨n - 1,by omega⟩
 have K0:Kp h.fresh (al h.fresh 72 z72):=(Kp.refl _).al 72 z72
 have hp:=s.lt
 have hT:=s.tT
 have g0:(al h.fresh 72 z72).get h.nx=some (.row 72 z72 0 false):=gN (h:=h.fresh)
 unfold partP
 by_cases hk:k < ts.length
 ·obtain⟨x,hx⟩:=s.get hk
  have hbk:=s.some_b hk
  have hbl:=Heap.lt_of_get hbk
  have hbp:=s.bp hbk
  have hpk:=s.pp' hk
  have ek:decide (((k:Nat):Int)≥((ts.length:Nat):Int))=false:=decide_eq_false (by omega)
  have KG:=hT1_kp h x
  have gG:=hT1_get h x
  have nG:=hT1_nx h x
  have sG:=s.fresh.kp KG
  simp only[hx]
  by_cases h1:x.k=1
  ·rw[if_pos h1]
   obtain⟨H,e,g,nx,wm,wp,w⟩:=qt_num h p b k ts.length E d ts x n hpk hbk hx hk (by omega) hp hbl hbp ek (eqK (k:=1) h1)
   exact resq_leaf (x:=hdVal 2 x.n []) (k':=k+1) e s g (by omega) wp (by rw[w,tsV_some hk];rfl) (by omega)
  rw[if_neg h1]
  by_cases h2:x.k=2
  ·rw[if_pos h2]
   by_cases hl:x.t.length≤200
   ·rw[if_pos hl]
    obtain⟨H,e,g,nx,wm,wp,w⟩:=qt_str h p b k ts.length E d ts x n hpk hbk hx hk (by omega) hp hbl hbp ek (neK (k:=1) h1) (eqK (k:=2) h2) (gt_dec' (a:=x.t.length) (b:=200) (by omega))
    exact resq_leaf (x:=hdVal 3 0 x.t) (k':=k+1) e s g (by omega) wp (by rw[w,tsV_some hk];rfl) (by omega)
   ·rw[if_neg hl]
    obtain⟨h1',e1,I1⟩:=qbad_law sG n (by omega)
    rw[if_pos rfl] at I1
    obtain⟨T1,w1⟩:=I1
    have n1:=T1.nx
    obtain⟨H,e,g,nx,wm,_⟩:=qt_long h h1' p b k ts.length E d ts x n hpk hbk hx hk (by omega) hp hbl hbp ((T1.fr.get _ (by omega) (by omega)).trans gG) (by omega) ek (neK (k:=1) h1) (eqK (k:=2) h2) (gt_dec (a:=x.t.length) (b:=200) (by omega)) e1
    exact resq_err (lo:=h.nx) e s ((KG.fr p).trans T1.fr) g (Nat.le_refl _) nx (by omega) (by decide) (Nat.le_refl _) (by omega) T1.st
  rw[if_neg h2]
  by_cases hx3:x.k=3
  ·rw[if_pos hx3]
   obtain⟨v1,h1',e1,F1,w1,wp1,y,r,l,rfl,R1⟩:=hnm n _ k x (by omega) hx sG
   have n1:=F1.nx
   obtain⟨H,e,g,nx,wm,_⟩:=qt_nm h h1' p b k ts.length E d ts x n y r l hpk hbk hx hk (by omega) hp hbl hbp ((F1.get _ (by omega) (by omega)).trans gG) (by omega) ek (neK (k:=1) h1) (neK (k:=2) h2) (eqK (k:=3) hx3) e1
   exact resq_on (hT1 h x) (lo:=h.nx) e s ((KG.fr p).trans F1) g (Nat.le_refl _) (by omega) nx (by omega) R1
  rw[if_neg hx3]
  have es:=qsign_law sG [40] n (by omega)
  rw[decide_eq_true rfl,Bool.true_and] at es
  have hsg:(sg ts [[40]] k).isSome=decide (x.k=4∧x.t=[40]):=by
   unfold sg;rw[hx]
   by_cases h4:x.k=4∧x.t=[40]
   ·simp[h4.1,h4.2]
   ·simp[h4]
  rw[hsg] at es
  by_cases h4:x.k=4∧x.t=[40]
  ·rw[decide_eq_true h4] at es
   rw[if_pos h4.1,if_pos h4.2]
   have hpl:p < (hT1 h x).nx:=by omega
   have s1:QSt m (pt (hT1 h x) p 160 [sv b 0 ts.length ts.length,iv (((k:Nat):Int)+1),iv (E:Int),iv ((d:Nat):Int),iv 0,iv 0]) p b ts E (k+1) d 0 0:=sG.fr (Fr.put _ _ _ hpl) (by rw[tsV_some hk];exact Heap.get_put_same _ _ _ hpl) (by omega)
   have F1:Fr h.fresh (pt (hT1 h x) p 160 [sv b 0 ts.length ts.length,iv (((k:Nat):Int)+1),iv (E:Int),iv ((d:Nat):Int),iv 0,iv 0]) p:=(KG.fr p).trans (Fr.put _ _ _ hpl)
   have gz:(pt (hT1 h x) p 160 [sv b 0 ts.length ts.length,iv (((k:Nat):Int)+1),iv (E:Int),iv ((d:Nat):Int),iv 0,iv 0]).get h.nx=some (.row 72 z72 0 false):=gO gG hpl (by omega)
   have nP:(pt (hT1 h x) p 160 [sv b 0 ts.length ts.length,iv (((k:Nat):Int)+1),iv (E:Int),iv ((d:Nat):Int),iv 0,iv 0]).nx=h.nx+2:=nG
   obtain⟨h1',wp1,I1⟩:=qinto_law s1 hd n (by omega)
   by_cases hd4:40≤d
   ·rw[if_pos hd4] at I1
    obtain⟨e1,T1⟩:=I1
    have n1:=T1.nx
    rw[nP] at n1
    obtain⟨H,e,g,nx,wm,_⟩:=qt_dp h h1' p b k ts.length E d ts x n hpk hbk hx hk (by omega) hp hbl hbp ((T1.fr.get _ (by omega) (by omega)).trans gz) (by omega) ek (neK (k:=1) h1) (neK (k:=2) h2) (neK (k:=3) hx3) es e1
    rw[hf0 (by omega)]
    exact resq_err (lo:=h.nx) e s (F1.trans T1.fr) g (Nat.le_refl _) nx (by omega) (by decide) (by omega) (by omega) T1.st
   ·rw[if_neg hd4] at I1
    obtain⟨e1,T1⟩:=I1
    have n1:=T1.nx
    rw[nP] at n1
    obtain⟨v2,h2',e2,F2,w2,wp2,y,r,l,rfl,R2⟩:=hf (by omega) n h1' (k+1) (by omega) T1.st
    have n2:=F2.nx
    have T2:=(F1.trans T1.fr).trans F2
    have g2:=(F2.get h.nx (by omega) (by omega)).trans ((T1.fr.get _ (by omega) (by omega)).trans gz)
    have hp2:p < h2'.nx:=by omega
    have hp2':p < (pt (al h2' 72 z72) h2'.nx 72 (ndL y r l)).nx:=by show p < h2'.nx+1;omega
    have K2:Kp h2' (pt (al h2' 72 z72) h2'.nx 72 (ndL y r l)):=((Kp.refl h2').al _ _).pt _ _ (Nat.le_refl _) (Nat.lt_succ_self _)
    have st3:∀ k3 d3 c3 w3,QSt m h2' p b ts E k3 d3 c3 w3→d+1≤d3→QSt m (hT3 h2' p b ts.length E k3 d3 c3 w3 y r l) p b ts E k3 (d3 - 1) c3 w3:=by
     intro k3 d3 c3 w3 s3 hd3
     have ed:((d3 - 1:Nat):Int)=(((d3:Nat):Int) - 1):=by omega
     exact(s3.kp K2).fr (Fr.put _ _ _ hp2') (by rw[tsV_some hk,ed];exact Heap.get_put_same _ _ _ hp2') s3.kT
    have fin3:∀ k3 d3 c3 w3 k4 c4 w4 h3,QSt m h2' p b ts E k3 d3 c3 w3→d+1≤d3→d3≤41→RD n 233 [pv p 0] (hT3 h2' p b ts.length E k3 d3 c3 w3 y r l)=some (.tuple #[],h3)→Tn m (hT3 h2' p b ts.length E k3 d3 c3 w3 y r l) h3 p b ts E k4 (d3 - 1) c4 w4→
      ∃ H,RD (n+1) 225 [pv p 0] h=some (finish h (ndV y r l) H)∧(∀ c,c < h3.nx→c≠h.nx→H.get c=h3.get c)∧H.nx=h3.nx∧H.wm≤h2'.wm∧Fr h2' h3 p:=by
     intro k3 d3 c3 w3 k4 c4 w4 h3 s3 hd3 hd3' e3 T3
     have n3:=T3.nx
     have n3':h3.nx=h2'.nx+1:=n3
     have w3':h3.wm≤(hT3 h2' p b ts.length E k3 d3 c3 w3 y r l).wm:=T3.wm
     have w4':(hT3 h2' p b ts.length E k3 d3 c3 w3 y r l).wm≤h2'.wm:=by unfold hT3;rw[Heap.wm_put];exact Nat.le_trans (Nat.min_le_right _ _) K2.wm
     have F23:Fr h2' h3 p:=((K2.fr p).trans (Fr.put _ _ _ hp2')).trans T3.fr
     have gp:h2'.get p=some (.row 160 [sv b 0 ts.length ts.length,iv ((k3:Nat):Int),iv (E:Int),iv ((d3:Nat):Int),iv ((c3:Nat):Int),iv ((w3:Nat):Int)] 0 false):=by rw[← tsV_some hk];exact s3.pp
     have gn:(hT3 h2' p b ts.length E k3 d3 c3 w3 y r l).get h2'.nx=some (.row 72 (ndL y r l) 0 false):=gO (gP (Nat.lt_succ_self _)) hp2' (by omega)
     obtain⟨H,e,g,nx,wm,_⟩:=qt_in h h1' h2' h3 p b k ts.length E d k3 d3 c3 w3 ts x n y r l hpk hbk hx hk (by omega) hp hbl hbp gp hp2 (by omega) ((F23.get _ (by omega) (by omega)).trans g2) (by omega) ((T3.fr.get _ (by show h2'.nx < h2'.nx+1;omega) (by omega)).trans gn) ek (neK (k:=1) h1) (neK (k:=2) h2) (neK (k:=3) hx3) es e1 e2 e3
     exact⟨H,e,g,nx,by omega,F23⟩
    cases hf2:f (k+1) with
    |err pos c=>
     rw[hf2] at R2
     obtain⟨hc,k',d',hd1,hd2,s2⟩:=R2
     obtain⟨h3,e3,I3⟩:=qclose_law (st3 k' d' c pos s2 hd1) n (by omega)
     rw[if_neg hc] at I3
     subst I3
     obtain⟨H,e,g,nx,wm,F3⟩:=fin3 k' d' c pos k' c pos _ s2 hd1 hd2 e3 (Tn.refl (st3 k' d' c pos s2 hd1))
     exact resq (lo:=h.nx+1) e s (T2.trans F3) (fun c hc hd=>g c hc (by omega)) (by omega) (by omega) ⟨hc,k',d' - 1,by omega,by omega,st3 k' d' c pos s2 hd1⟩
    |ok t k2=>
     rw[hf2] at R2
     obtain⟨N2,s2⟩:=R2
     have s3:=st3 k2 (d+1) 0 0 s2 (Nat.le_refl _)
     obtain⟨h3,e3,I3⟩:=qclose_law s3 n (by omega)
     rw[if_pos rfl] at I3
     obtain⟨w3,I3⟩:=I3
     simp only
     cases hs:sg ts [[41]] k2 with
     |none=>
      rw[hs] at I3
      obtain⟨H,e,g,nx,wm,F3⟩:=fin3 k2 (d+1) 0 0 k2 13 (place ts E k2) h3 s2 (Nat.le_refl _) (by omega) e3 I3
      exact resq (lo:=h.nx+1) e s (T2.trans F3) (fun c hc hd=>g c hc (by omega)) (by omega) (by omega) ⟨by decide,k2,d,by omega,by omega,I3.st⟩
     |some sn=>
      rw[hs] at I3
      obtain⟨H,e,g,nx,wm,F3⟩:=fin3 k2 (d+1) 0 0 (k2+1) 0 0 h3 s2 (Nat.le_refl _) (by omega) e3 I3
      have n3:h2'.nx≤h3.nx:=F3.nx
      refine resq (lo:=h.nx+1) e s (T2.trans F3) (fun c hc hd=>g c hc (by omega)) (by omega) (by omega) ⟨NodeC.mono (fun c o hc e=>?_) N2,I3.st⟩
      have hc1:h1'.nx≤c:=hc.1
      have hc2:=Heap.lt_of_get e
      exact⟨⟨by omega,by omega⟩,(g c (by omega) (by omega)).trans ((F3.get c hc2 (by omega)).trans e)⟩
  ·rw[decide_eq_false h4] at es
   obtain⟨h1',e1,I1⟩:=qbad_law sG n (by omega)
   rw[if_pos rfl] at I1
   obtain⟨T1,w1⟩:=I1
   have n1:=T1.nx
   obtain⟨H,e,g,nx,wm,_⟩:=qt_no h h1' p b k ts.length E d ts x n hpk hbk hx hk (by omega) hp hbl hbp ((T1.fr.get _ (by omega) (by omega)).trans gG) (by omega) ek (neK (k:=1) h1) (neK (k:=2) h2) (neK (k:=3) hx3) es e1
   have er:=resq_err (lo:=h.nx) e s ((KG.fr p).trans T1.fr) g (Nat.le_refl _) nx (by omega) (by decide) (Nat.le_refl _) (by omega) T1.st
   by_cases ha:x.k=4
   ·rw[if_pos ha,if_neg fun hb=>h4 ⟨ha,hb⟩];exact er
   ·rw[if_neg ha];exact er
 ·have hx:ts[k]? =none:=List.getElem?_eq_none (by omega)
  simp only[hx]
  obtain⟨h1,e1,I1⟩:=qbad_law (s.fresh.kp K0) n (by omega)
  rw[if_pos rfl] at I1
  obtain⟨T1,w1⟩:=I1
  have n1:h1.nx=h.nx+1:=T1.nx
  obtain⟨H,e,g,nx,wm,_⟩:=qt_end h h1 p k ts.length E d n (tsR b ts) s.pp hp ((T1.fr.get h.nx (Nat.lt_succ_self _) (by omega)).trans g0) (by omega) (decide_eq_true (by omega)) e1
  exact resq_err (lo:=h.nx) e s ((K0.fr p).trans T1.fr) g (Nat.le_refl _) nx (by omega) (by decide) (Nat.le_refl _) (by omega) T1.st
end
end Go.PanE
