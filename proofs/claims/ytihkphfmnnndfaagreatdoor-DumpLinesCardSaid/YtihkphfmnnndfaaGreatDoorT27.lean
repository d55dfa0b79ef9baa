/-
 Part 27 of the proof of Rows.DumpLinesCardSaid. No conditions.
-/
import Derived.Test.YtihkphfmnnndfaaGreatDoorT26
namespace Go.PanE
open Go.Proofs
noncomputable section
abbrev uY:Vs:=[iv 0,iv 0,.string ⟨#[]⟩,iv 0]
abbrev zc2(h:Heap)(x:Tk):Heap:=pt (pt (zd 1 (al h.fh 72 z72)) (h.nx+1) 199 uY) (h.nx+1) 199 [iv (x.k:Int),iv (x.n:Int),.string ⟨⟨x.t⟩⟩,iv (x.at_:Int)]
abbrev zbb(x:Tk):Value:=.agg #[iv (x.k:Int),iv (x.n:Int),.string ⟨⟨x.t⟩⟩,iv (x.at_:Int)]
abbrev uC(b T k E:Nat):AObj:=.row 274 [sv b 0 T T,iv (k:Int),iv E] 0 false
abbrev zaR(p d:Nat)(t:Bsy):Vs:=[pv p 0,iv (d:Int),.string ⟨⟨t⟩⟩]
abbrev zaQ:Vs:=[iv 0,iv 0,.string ⟨#[]⟩]
abbrev zba(q:Nat):Value:=.tuple #[zj,.iface 242 (pv q 0)]
abbrev zc1:Value:=.agg #[iv 4,iv 7,.string ⟨#[]⟩]
abbrev uB(ts:List Tk):AObj:=.row 199 (tkC ts) 4 false
abbrev yX(p d:Nat):Vs:=[pv p 0,iv (d:Int)]
abbrev ziJ(h:Heap)(a c ua uc:Nat):Heap:=al (al (al h.fh 29 [iv (a:Int),iv (c:Int)]) 29 [iv (ua:Int),iv (uc:Int)]) 43 [iv 0,iv 0,iv 0,iv 0]
abbrev zac(h:Heap):Heap:=al h.fh 29 [iv 0,iv 0]
abbrev zfu(q:Nat):Value:=.tuple #[.agg #[iv 0,iv 0],.iface 242 (pv q 0)]
abbrev ziI(h1:Heap)(a c:Int):Heap:=al (pt (al h1 29 [iv 0,iv 0]) h1.nx 29 [iv a,iv c]) 9 [.string ⟨#[58]⟩]
abbrev zft(r:OA)(T k E:Nat):AObj:=.row 274 [.slice r T T,iv (k:Int),iv E] 0 false
abbrev zfs:AObj:=.row 29 [iv 0,iv 0] 0 false
abbrev ziH(b T k E:Nat):AObj:=.row 274 [sv b 0 T T,iv ((k:Int)+1),iv E] 0 false
abbrev zdD(k:Nat):Value:=iv ((k:Int)+1)
abbrev zfr(h:Heap)(x:Tk):Heap:=al (zc2 h x) 9 [.string ⟨#[40]⟩]
abbrev ziG:Vs:=[iv 4,iv 7,.string ⟨#[]⟩]
variable (h h1 h2 h3:Heap) (p b k T E d q:Nat) (r:OA) (ts:List Tk) (x:Tk) (n:Nat) (y:Hd) (yr:OA) (yn:Nat) (t s:Bsy) (a c ua uc:Int)
theorem zuG(hp:h.get p=some (zft r T k E))(_hl:p < h.nx)(g1_:h1.get h.nx=some zfs)(l1_:h.nx < h1.nx)(a0:decide ((k:Int) < T)=false)(a1:RD n 177 [pv p 0] (zac h)=some (.iface 242 (pv q 0),h1)):∃ H,Fn n 254 [pv p 0] h (zfu q) H∧tl1 h1 h1.wm h.nx h1.nx H:=
 exT (kI (ko hp)) [aS 29 [iv 0,iv 0],.l 0 3 1,.l 0 155 0,yF a0,yN (h.nx+1),.q (.l 0 3 1),.q (.l 0 155 0),yQ (iv T),yC a1 (kI (ko g1_)),.w 0 29 0 (.agg #[iv 0,iv 0]),.r 0 29 2,.z 1] []
theorem zBP(hp:h.get p=some (uC b T k E))(hb:h.get b=some (uB ts))(hx:ts[k]? =some x)(_h1:k < T)(_h2:T < 4611686018427387904)(_hl:p < h.nx)(_hb:b < h.nx)(g1_:h1.get h.nx=some zfs)(l1_:h.nx < h1.nx)(a0:decide ((k:Int) < T)=true)(a1:(((x.k:Int):Int)==3)=false)(a2:RD n 177 [pv p 0] (zac h)=some (.iface 242 (pv q 0),h1)):∃ H,Fn n 254 [pv p 0] h (zfu q) H∧tl1 h1 h1.wm h.nx h1.nx H:=
 exT (kJ (ko hp) (kx hb hx)) [aS 29 [iv 0,iv 0],.l 0 3 1,.l 0 155 0,yT a0,.l 0 155 0,.l 0 3 1,iA 155 199 4 b T k,.k 1 3 0,yF a1,yN (h.nx+1),.q (.l 0 3 1),.q (.l 0 155 0),yQ (iv T),.q (.l 0 155 0),.q (.l 0 3 1),.q (.k 1 3 0),yC a2 (kI (ko g1_)),.w 0 29 0 (.agg #[iv 0,iv 0]),.r 0 29 2,.z 1] []
theorem zxD(hp:h.get p=some (uC b T k E))(hb:h.get b=some (uB ts))(hx:ts[k]? =some x)(_h1:k < T)(_h2:T < 4611686018427387904)(_hl:p < h.nx)(_hb:b < h.nx)(g1_:h1.get h.nx=some zfs)(l1_:h.nx < h1.nx)(a0:decide ((k:Int) < T)=true)(a1:(((x.k:Int):Int)==3)=true)(a2:Pu n 252 [pv p 0] (.bool true) (zac h))(a3:RD n 177 [pv p 0] (zac h)=some (.iface 242 (pv q 0),h1)):∃ H,Fn n 254 [pv p 0] h (zfu q) H∧tl1 h1 h1.wm h.nx h1.nx H:=
 exT (kJ (ko hp) (kx hb hx)) [aS 29 [iv 0,iv 0],.l 0 3 1,.l 0 155 0,yT a0,.l 0 155 0,.l 0 3 1,iA 155 199 4 b T k,.k 1 3 0,yT a1,yP a2,yN (h.nx+1),.q (.l 0 3 1),.q (.l 0 155 0),yQ (iv T),.q (.l 0 155 0),.q (.l 0 3 1),.q (.k 1 3 0),yC a3 (kI (ko g1_)),.w 0 29 0 (.agg #[iv 0,iv 0]),.r 0 29 2,.z 1] []
theorem zxF(ts:List Tk)(x:Tk)(n:Nat)(hp:h.get p=some (uC b T k E))(hb:h.get b=some (uB ts))(hx:ts[k]? =some x)(_h1:k < T)(_h2:T < 4611686018427387904)(_hl:p < h.nx)(_hb:b < h.nx)(g1_:h1.get h.nx=some zfs)(l1_:h.nx < h1.nx)(a0:decide ((k:Int) < T)=true)(a1:(((x.k:Int):Int)==3)=true)(a2:Pu n 252 [pv p 0] (.bool false) (zac h))(a3:Pu n 28 [.string ⟨⟨x.t⟩⟩] (.tuple #[.agg #[iv a,iv c],.bool false]) (zd 1 (zac h)))(a4:RD n 177 [pv p 0] (pt (pt (zd 1 (zac h)) (h.nx+1) 29 [iv 0,iv 0]) (h.nx+1) 29 [iv a,iv c])=some (.iface 242 (pv q 0),h1)):∃ H,Fn n 254 [pv p 0] h (zfu q) H∧tl1 h1 h1.wm h.nx h1.nx H:=
 exT (kJ (ko hp) (kx hb hx)) [aS 29 [iv 0,iv 0],.l 0 3 1,.l 0 155 0,yT a0,.l 0 155 0,.l 0 3 1,iA 155 199 4 b T k,.k 1 3 0,yT a1,yP a2,yN (h.nx+1),.q (.l 0 3 1),.q (.l 0 155 0),yQ (iv T),.q (.l 0 155 0),.q (.l 0 3 1),.q (.k 1 3 0),.v 1,.l 0 155 0,.l 0 3 1,iA 155 199 4 b T k,.k 1 9 1,yP a3,bS 0 29 [iv 0,iv 0],.w 3 29 0 (.agg #[iv a,iv c]),yN (h.nx+2),.j 1,.q (.l 0 155 0),.q (.l 0 3 1),.q (.k 1 9 1),.j 3,yC a4 (kI (ko g1_)),.w 0 29 0 (.agg #[iv 0,iv 0]),.r 0 29 2,.z 1] []
theorem zxE(ts:List Tk)(x:Tk)(n:Nat)(hp:h.get p=some (uC b T k E))(hb:h.get b=some (uB ts))(hx:ts[k]? =some x)(_h1:k < T)(_h2:T < 4611686018427387904)(_hl:p < h.nx)(_hb:b < h.nx)(_hpb:b≠p)(a0:decide ((k:Int) < T)=true)(a1:(((x.k:Int):Int)==3)=true)(a2:Pu n 252 [pv p 0] (.bool false) (zac h))(a3:Pu n 28 [.string ⟨⟨x.t⟩⟩] (.tuple #[.agg #[iv a,iv c],.bool true]) (zd 1 (zac h))):∃ H,Fn n 254 [pv p 0] h (.tuple #[.agg #[iv a,iv c],.nilIface]) H∧tw1 h h.fh.wm p (h.nx+2) H (H.get p=some (ziH b T k E)):=
 exT (kJ (ko hp) (kx hb hx)) [aS 29 [iv 0,iv 0],.l 0 3 1,.l 0 155 0,yT a0,.l 0 155 0,.l 0 3 1,iA 155 199 4 b T k,.k 1 3 0,yT a1,yP a2,yN (h.nx+1),.q (.l 0 3 1),.q (.l 0 155 0),yQ (iv T),.q (.l 0 155 0),.q (.l 0 3 1),.q (.k 1 3 0),.v 1,.l 0 155 0,.l 0 3 1,iA 155 199 4 b T k,.k 1 9 1,yP a3,bS 0 29 [iv 0,iv 0],.w 3 29 0 (.agg #[iv a,iv c]),yN (h.nx+2),.j 1,.q (.l 0 155 0),.q (.l 0 3 1),.q (.k 1 9 1),.j 3,.l 0 3 1,yW ((k:Int)+1),.w 0 3 1 (zdD k),.g 3 29 0 2,.w 2 29 0 (.agg #[iv a,iv c]),.r 2 29 2,.z 1] [0]
theorem zAr(x:Hd)(xr:OA)(xn:Nat)(g1_:h1.get h.nx=some (.row 72 z72 0 false))(l1_:h.nx < h1.nx)(a0:Pu n 252 [pv p 0] (.bool true) (al h.fh 72 z72))(a1:RD n 253 (zaR p d t) (al h.fh 72 z72)=some (.tuple #[ndV x xr xn,.nilIface],h1)):∃ H,Fn n 250 (zaR p d t) h (.tuple #[ndV x xr xn,.nilIface]) H∧tl1 h1 h1.wm h.nx h1.nx H:=
 exT (kZ h) [aS 72 z72,yP a0,yC a1 (kI (ko g1_)),.w 0 72 0 (ndV x xr xn),.r 0 72 10,.z 1] []
theorem zwT(g1_:h1.get h.nx=some (.row 72 z72 0 false))(l1_:h.nx < h1.nx)(a0:Pu n 252 [pv p 0] (.bool true) (al h.fh 72 z72))(a1:RD n 253 (zaR p d t) (al h.fh 72 z72)=some (.tuple #[zj,.iface 242 (pv q 0)],h1)):∃ H,Fn n 250 (zaR p d t) h (zba q) H∧tl1 h1 h1.wm h.nx h1.nx H:=
 exT (kZ h) [aS 72 z72,yP a0,yC a1 (kI (ko g1_)),.w 0 72 0 (zj),.r 0 72 10,.z 1] []
theorem zAl(k T E n:Nat)(r:OA)(t:Bsy)(hp:h.get p=some (zft r T k E))(_h1:k < 1000)(_hl:p < h.nx)(a0:Pu n 252 [pv p 0] (.bool false) (al h.fh 72 z72))(a1:bqS ⟨⟨t⟩⟩ ⟨#[84,82,85,69]⟩=true):∃ H,Fn n 250 (zaR p d t) h (.tuple #[.agg #[iv 1,iv 1,iv 1,.string ⟨#[]⟩,iv 0,iv 0,iv 0,iv 0,.string ⟨#[]⟩,.slice none 0 0],.nilIface]) H∧tw1 h h.fh.wm p (h.nx+1) H (H.get p=some (.row 274 [.slice r T T,iv ((k:Int)+1),iv E] 0 false)):=
 exT (kI (ko hp)) [aS 72 z72,yP a0,yT a1,.l 0 3 1,yW ((k:Int)+1),.w 0 3 1 (zdD k),.w 1 72 0 (.agg #[iv 1,iv 1,iv 1,.string ⟨#[]⟩,iv 0,iv 0,iv 0,iv 0,.string ⟨#[]⟩,.slice none 0 0]),.r 1 72 10,.z 1] [0]
theorem zAp(k T E n:Nat)(r:OA)(t:Bsy)(hp:h.get p=some (zft r T k E))(_h1:k < 1000)(_hl:p < h.nx)(a0:Pu n 252 [pv p 0] (.bool false) (al h.fh 72 z72))(a1:bqS ⟨⟨t⟩⟩ ⟨#[84,82,85,69]⟩=false)(a2:bqS ⟨⟨t⟩⟩ ⟨#[70,65,76,83,69]⟩=true):∃ H,Fn n 250 (zaR p d t) h (.tuple #[.agg #[iv 1,iv 1,iv 0,.string ⟨#[]⟩,iv 0,iv 0,iv 0,iv 0,.string ⟨#[]⟩,.slice none 0 0],.nilIface]) H∧tw1 h h.fh.wm p (h.nx+1) H (H.get p=some (.row 274 [.slice r T T,iv ((k:Int)+1),iv E] 0 false)):=
 exT (kI (ko hp)) [aS 72 z72,yP a0,yF a1,yT a2,.l 0 3 1,yW ((k:Int)+1),.w 0 3 1 (zdD k),.w 1 72 0 (.agg #[iv 1,iv 1,iv 0,.string ⟨#[]⟩,iv 0,iv 0,iv 0,iv 0,.string ⟨#[]⟩,.slice none 0 0]),.r 1 72 10,.z 1] [0]
theorem zAq(g1_:h1.get h.nx=some (.row 72 z72 0 false))(l1_:h.nx < h1.nx)(a0:Pu n 252 [pv p 0] (.bool false) (al h.fh 72 z72))(a1:bqS ⟨⟨t⟩⟩ ⟨#[84,82,85,69]⟩=false)(a2:bqS ⟨⟨t⟩⟩ ⟨#[70,65,76,83,69]⟩=false)(a3:RD n 254 [pv p 0] (al h.fh 72 z72)=some (.tuple #[.agg #[iv a,iv c],.iface 242 (pv q 0)],h1)):∃ H,Fn n 250 (zaR p d t) h (zba q) H∧tl1 h1 h1.wm h.nx (h1.nx+1) H:=
 exT (kZ h) [aS 72 z72,yP a0,yF a1,yF a2,yC a3 (kI (ko g1_)),aS 29 [iv 0,iv 0],.w 1 29 0 (.agg #[iv a,iv c]),bT,.w 0 72 0 (zj),.r 0 72 10,.z 1] []
theorem zAm(g1_:h1.get h.nx=some (.row 72 z72 0 false))(l1_:h.nx < h1.nx)(a0:Pu n 252 [pv p 0] (.bool false) (al h.fh 72 z72))(a1:bqS ⟨⟨t⟩⟩ ⟨#[84,82,85,69]⟩=false)(a2:bqS ⟨⟨t⟩⟩ ⟨#[70,65,76,83,69]⟩=false)(a3:RD n 254 [pv p 0] (al h.fh 72 z72)=some (.tuple #[.agg #[iv a,iv c],.nilIface],h1))(a4:Pu n 200 [pv p 0,sv (h1.nx+1) 0 1 1] (.tuple #[.string ⟨#[]⟩,.bool false]) (ziI h1 a c)):∃ H,Fn n 250 (zaR p d t) h (.tuple #[.agg #[iv 2,iv 0,iv 0,.string ⟨#[]⟩,iv a,iv c,iv 0,iv 0,.string ⟨#[]⟩,.slice none 0 0],.nilIface]) H∧tl1 h1 h1.wm h.nx (h1.nx+2) H:=
 exT (kZ h) [aS 72 z72,yP a0,yF a1,yF a2,yC a3 (kI (ko g1_)),aS 29 [iv 0,iv 0],.w 1 29 0 (.agg #[iv a,iv c]),bF,aS 9 [.string ⟨#[58]⟩],yP a4,.g 1 29 0 2,.w 0 72 0 (.agg #[iv 2,iv 0,iv 0,.string ⟨#[]⟩,iv a,iv c,iv 0,iv 0,.string ⟨#[]⟩,.slice none 0 0]),.r 0 72 10,.z 1] []
theorem zwS(g3_:h3.get h.nx=some (.row 72 z72 0 false))(l3_:h.nx < h3.nx)(a0:Pu n 252 [pv p 0] (.bool false) (al h.fh 72 z72))(a1:bqS ⟨⟨t⟩⟩ ⟨#[84,82,85,69]⟩=false)(a2:bqS ⟨⟨t⟩⟩ ⟨#[70,65,76,83,69]⟩=false)(a3:RD n 254 [pv p 0] (al h.fh 72 z72)=some (.tuple #[.agg #[iv a,iv c],.nilIface],h1))(a4:RD n 200 [pv p 0,sv (h1.nx+1) 0 1 1] (ziI h1 a c)=some (.tuple #[.string ⟨⟨s⟩⟩,.bool true],h2))(a5:RD n 254 [pv p 0] h2=some (.tuple #[.agg #[iv ua,iv uc],.iface 242 (pv q 0)],h3)):∃ H,Fn n 250 (zaR p d t) h (zba q) H∧tl1 h3 h3.wm h.nx (h3.nx+1) H:=
 exT (kZ h) [aS 72 z72,yP a0,yF a1,yF a2,yC a3 (kZ h1),aS 29 [iv 0,iv 0],.w 0 29 0 (.agg #[iv a,iv c]),bF,aS 9 [.string ⟨#[58]⟩],yC a4 (kZ h2),yC a5 (kI (ko g3_)),aS 29 [iv 0,iv 0],.w 1 29 0 (.agg #[iv ua,iv uc]),bT,.w 0 72 0 (zj),.r 0 72 10,.z 1] []
theorem zAo(r0 c0 r1 c1:Int)(g3_:h3.get h.nx=some (.row 72 z72 0 false))(l3_:h.nx < h3.nx)(g31_:h3.get h1.nx=some (.row 29 [iv a,iv c] 0 false))(l13_:h1.nx < h3.nx)(a0:Pu n 252 [pv p 0] (.bool false) (al h.fh 72 z72))(a1:bqS ⟨⟨t⟩⟩ ⟨#[84,82,85,69]⟩=false)(a2:bqS ⟨⟨t⟩⟩ ⟨#[70,65,76,83,69]⟩=false)(a3:RD n 254 [pv p 0] (al h.fh 72 z72)=some (.tuple #[.agg #[iv a,iv c],.nilIface],h1))(a4:RD n 200 [pv p 0,sv (h1.nx+1) 0 1 1] (ziI h1 a c)=some (.tuple #[.string ⟨⟨s⟩⟩,.bool true],h2))(a5:RD n 254 [pv p 0] h2=some (.tuple #[.agg #[iv ua,iv uc],.nilIface],h3))(a6:Pu n 255 [.agg #[iv a,iv c],.agg #[iv ua,iv uc]] (.tuple #[.agg #[iv r0,iv c0,iv r1,iv c1],.bool true]) (pt (al h3 29 [iv 0,iv 0]) h3.nx 29 [iv ua,iv uc])):∃ H,Fn n 250 (zaR p d t) h (.tuple #[.agg #[iv 3,iv 0,iv 0,.string ⟨#[]⟩,iv r0,iv c0,iv r1,iv c1,.string ⟨#[]⟩,.slice none 0 0],.nilIface]) H∧tl1 h3 h3.wm h.nx (h3.nx+2) H:=
 exT (kZ h) [aS 72 z72,yP a0,yF a1,yF a2,yC a3 (kZ h1),aS 29 [iv 0,iv 0],.w 0 29 0 (.agg #[iv a,iv c]),bF,aS 9 [.string ⟨#[58]⟩],yC a4 (kZ h2),yC a5 (kJ (ko g31_) (ko g3_)),aS 29 [iv 0,iv 0],.w 2 29 0 (.agg #[iv ua,iv uc]),bF,.g 0 29 0 2,.g 2 29 0 2,yP a6,aS 43 [iv 0,iv 0,iv 0,iv 0],.w 3 43 0 (.agg #[iv r0,iv c0,iv r1,iv c1]),.g 3 43 0 4,.w 1 72 0 (.agg #[iv 3,iv 0,iv 0,.string ⟨#[]⟩,iv r0,iv c0,iv r1,iv c1,.string ⟨#[]⟩,.slice none 0 0]),.r 1 72 10,.z 1] []
theorem ztD(hp:h.get p=some (zft r T k E))(_hl:p < h.nx)(g1_:h1.get h.nx=some (.row 72 z72 0 false))(l1_:h.nx < h1.nx)(a0:((k:Int)==T)=true)(a1:RD n 177 [pv p 0] (al h.fh 72 z72)=some (.iface 242 (pv q 0),h1)):∃ H,Fn n 248 (yX p d) h (zba q) H∧tl1 h1 h1.wm h.nx h1.nx H:=
 exT (kI (ko hp)) [aS 72 z72,.l 0 3 1,.l 0 155 0,yT a0,yN (h.nx+1),.q (.l 0 3 1),.q (.l 0 155 0),yQ (iv T),yC a1 (kI (ko g1_)),.w 0 72 0 (zj),.r 0 72 10,.z 1] []
theorem ztC(hp:h.get p=some (uC b T k E))(hb:h.get b=some (uB ts))(hx:ts[k]? =some x)(_h1:k < T)(_h2:T < 4611686018427387904)(_hl:p < h.nx)(_hb:b < h.nx)(a0:((k:Int)==T)=false)(a1:(((x.k:Int):Int)==1)=true):∃ H,Fn n 248 (yX p d) h (.tuple #[.agg #[iv 1,iv 2,iv (x.n:Int),.string ⟨#[]⟩,iv 0,iv 0,iv 0,iv 0,.string ⟨#[]⟩,.slice none 0 0],.nilIface]) H∧tw1 h h.fh.wm p (h.nx+2) H (H.get p=some (ziH b T k E)):=
 exT (kJ (ko hp) (kx hb hx)) [aS 72 z72,.l 0 3 1,.l 0 155 0,yF a0,yN (h.nx+1),.q (.l 0 3 1),.q (.l 0 155 0),yQ (iv T),.v 1,.l 0 155 0,.l 0 3 1,iA 155 199 4 b T k,.m 1 199 0,bS 0 199 uY,.w 3 199 0 (zbb x),yN (h.nx+2),.j 1,.q (.l 0 155 0),.q (.l 0 3 1),.q (.m 1 199 0),.j 3,.l 3 3 0,yT a1,.l 0 3 1,yW ((k:Int)+1),.w 0 3 1 (zdD k),.l 3 2 1,.w 2 72 0 (.agg #[iv 1,iv 2,iv (x.n:Int),.string ⟨#[]⟩,iv 0,iv 0,iv 0,iv 0,.string ⟨#[]⟩,.slice none 0 0]),.r 2 72 10,.z 1] [0]
theorem ztB(hp:h.get p=some (uC b T k E))(hb:h.get b=some (uB ts))(hx:ts[k]? =some x)(_h1:k < T)(_h2:T < 4611686018427387904)(_hl:p < h.nx)(_hb:b < h.nx)(a0:((k:Int)==T)=false)(a1:(((x.k:Int):Int)==1)=false)(a2:(((x.k:Int):Int)==2)=true)(a3:Pu n 74 [.string ⟨⟨x.t⟩⟩] (.agg #[iv 3,iv 0,.string ⟨⟨x.t⟩⟩]) (zc2 h x)):∃ H,Fn n 248 (yX p d) h (.tuple #[.agg #[iv 1,iv 3,iv 0,.string ⟨⟨x.t⟩⟩,iv 0,iv 0,iv 0,iv 0,.string ⟨#[]⟩,.slice none 0 0],.nilIface]) H∧tw1 h h.fh.wm p (h.nx+3) H (H.get p=some (ziH b T k E)):=
 exT (kJ (ko hp) (kx hb hx)) [aS 72 z72,.l 0 3 1,.l 0 155 0,yF a0,yN (h.nx+1),.q (.l 0 3 1),.q (.l 0 155 0),yQ (iv T),.v 1,.l 0 155 0,.l 0 3 1,iA 155 199 4 b T k,.m 1 199 0,bS 0 199 uY,.w 3 199 0 (zbb x),yN (h.nx+2),.j 1,.q (.l 0 155 0),.q (.l 0 3 1),.q (.m 1 199 0),.j 3,.l 3 3 0,yF a1,yT a2,.l 3 9 2,yP a3,aS 27 zaQ,.w 4 27 0 (.agg #[iv 3,iv 0,.string ⟨⟨x.t⟩⟩]),.l 4 3 0,bT,.l 0 3 1,yW ((k:Int)+1),.w 0 3 1 (zdD k),.g 4 27 0 3,.w 2 72 0 (.agg #[iv 1,iv 3,iv 0,.string ⟨⟨x.t⟩⟩,iv 0,iv 0,iv 0,iv 0,.string ⟨#[]⟩,.slice none 0 0]),.r 2 72 10,.z 1] [0]
theorem zqH(hp:h.get p=some (uC b T k E))(hb:h.get b=some (uB ts))(hx:ts[k]? =some x)(_h1:k < T)(_h2:T < 4611686018427387904)(_hl:p < h.nx)(_hb:b < h.nx)(g1_:h1.get h.nx=some (.row 72 z72 0 false))(l1_:h.nx < h1.nx)(a0:((k:Int)==T)=false)(a1:(((x.k:Int):Int)==1)=false)(a2:(((x.k:Int):Int)==2)=true)(a3:Pu n 74 [.string ⟨⟨x.t⟩⟩] zc1 (zc2 h x))(a4:RD n 177 [pv p 0] (pt (al (zc2 h x) 27 zaQ) (h.nx+2) 27 ziG)=some (.iface 242 (pv q 0),h1)):∃ H,Fn n 248 (yX p d) h (zba q) H∧tl1 h1 h1.wm h.nx h1.nx H:=
 exT (kJ (ko hp) (kx hb hx)) [aS 72 z72,.l 0 3 1,.l 0 155 0,yF a0,yN (h.nx+1),.q (.l 0 3 1),.q (.l 0 155 0),yQ (iv T),.v 1,.l 0 155 0,.l 0 3 1,iA 155 199 4 b T k,.m 1 199 0,bS 0 199 uY,.w 3 199 0 (zbb x),yN (h.nx+2),.j 1,.q (.l 0 155 0),.q (.l 0 3 1),.q (.m 1 199 0),.j 3,.l 3 3 0,yF a1,yT a2,.l 3 9 2,yP a3,aS 27 zaQ,.w 4 27 0 zc1,.l 4 3 0,bF,yC a4 (kI (ko g1_)),.w 0 72 0 (zj),.r 0 72 10,.z 1] []
theorem zwG(hp:h.get p=some (uC b T k E))(hb:h.get b=some (uB ts))(hx:ts[k]? =some x)(_h1:k < T)(_h2:T < 4611686018427387904)(_hl:p < h.nx)(_hb:b < h.nx)(g1_:h1.get h.nx=some (.row 72 z72 0 false))(l1_:h.nx < h1.nx)(a0:((k:Int)==T)=false)(a1:(((x.k:Int):Int)==1)=false)(a2:(((x.k:Int):Int)==2)=false)(a3:(((x.k:Int):Int)==3)=true)(a4:RD n 250 [pv p 0,iv (d:Int),.string ⟨⟨x.t⟩⟩] (zc2 h x)=some (.tuple #[ndV y yr yn,.nilIface],h1)):∃ H,Fn n 248 (yX p d) h (.tuple #[ndV y yr yn,.nilIface]) H∧tl1 h1 h1.wm h.nx h1.nx H:=
 exT (kJ (ko hp) (kx hb hx)) [aS 72 z72,.l 0 3 1,.l 0 155 0,yF a0,yN (h.nx+1),.q (.l 0 3 1),.q (.l 0 155 0),yQ (iv T),.v 1,.l 0 155 0,.l 0 3 1,iA 155 199 4 b T k,.m 1 199 0,bS 0 199 uY,.w 3 199 0 (zbb x),yN (h.nx+2),.j 1,.q (.l 0 155 0),.q (.l 0 3 1),.q (.m 1 199 0),.j 3,.l 3 3 0,yF a1,yF a2,yT a3,.l 3 9 2,yC a4 (kI (ko g1_)),.w 0 72 0 (ndV y yr yn),.r 0 72 10,.z 1] []
theorem zwF(hp:h.get p=some (uC b T k E))(hb:h.get b=some (uB ts))(hx:ts[k]? =some x)(_h1:k < T)(_h2:T < 4611686018427387904)(_hl:p < h.nx)(_hb:b < h.nx)(g1_:h1.get h.nx=some (.row 72 z72 0 false))(l1_:h.nx < h1.nx)(a0:((k:Int)==T)=false)(a1:(((x.k:Int):Int)==1)=false)(a2:(((x.k:Int):Int)==2)=false)(a3:(((x.k:Int):Int)==3)=true)(a4:RD n 250 [pv p 0,iv (d:Int),.string ⟨⟨x.t⟩⟩] (zc2 h x)=some (.tuple #[zj,.iface 242 (pv q 0)],h1)):∃ H,Fn n 248 (yX p d) h (zba q) H∧tl1 h1 h1.wm h.nx h1.nx H:=
 exT (kJ (ko hp) (kx hb hx)) [aS 72 z72,.l 0 3 1,.l 0 155 0,yF a0,yN (h.nx+1),.q (.l 0 3 1),.q (.l 0 155 0),yQ (iv T),.v 1,.l 0 155 0,.l 0 3 1,iA 155 199 4 b T k,.m 1 199 0,bS 0 199 uY,.w 3 199 0 (zbb x),yN (h.nx+2),.j 1,.q (.l 0 155 0),.q (.l 0 3 1),.q (.m 1 199 0),.j 3,.l 3 3 0,yF a1,yF a2,yT a3,.l 3 9 2,yC a4 (kI (ko g1_)),.w 0 72 0 (zj),.r 0 72 10,.z 1] []
theorem zwE(hp:h.get p=some (uC b T k E))(hb:h.get b=some (uB ts))(hx:ts[k]? =some x)(_h1:k < T)(_h2:T < 4611686018427387904)(_hl:p < h.nx)(_hb:b < h.nx)(g1_:h1.get h.nx=some (.row 72 z72 0 false))(l1_:h.nx < h1.nx)(a0:((k:Int)==T)=false)(a1:(((x.k:Int):Int)==1)=false)(a2:(((x.k:Int):Int)==2)=false)(a3:(((x.k:Int):Int)==3)=false)(a4:(((x.k:Int):Int)==4)=true)(a5:Pu n 200 [pv p 0,sv (h.nx+2) 0 1 1] (.tuple #[.string ⟨#[]⟩,.bool false]) (zfr h x))(a6:RD n 177 [pv p 0] (zfr h x)=some (.iface 242 (pv q 0),h1)):∃ H,Fn n 248 (yX p d) h (zba q) H∧tl1 h1 h1.wm h.nx h1.nx H:=
 exT (kJ (ko hp) (kx hb hx)) [aS 72 z72,.l 0 3 1,.l 0 155 0,yF a0,yN (h.nx+1),.q (.l 0 3 1),.q (.l 0 155 0),yQ (iv T),.v 1,.l 0 155 0,.l 0 3 1,iA 155 199 4 b T k,.m 1 199 0,bS 0 199 uY,.w 3 199 0 (zbb x),yN (h.nx+2),.j 1,.q (.l 0 155 0),.q (.l 0 3 1),.q (.m 1 199 0),.j 3,.l 3 3 0,yF a1,yF a2,yF a3,yT a4,aS 9 [.string ⟨#[40]⟩],yP a5,yC a6 (kI (ko g1_)),.w 0 72 0 (zj),.r 0 72 10,.z 1] []
theorem zwH(ts:List Tk)(x:Tk)(n:Nat)(y:Hd)(yr:OA)(yn:Nat)(hp:h.get p=some (uC b T k E))(hb:h.get b=some (uB ts))(hx:ts[k]? =some x)(_h1:k < T)(_h2:T < 4611686018427387904)(_hl:p < h.nx)(_hb:b < h.nx)(g2_:h2.get h.nx=some (.row 72 z72 0 false))(l2_:h.nx < h2.nx)(a0:((k:Int)==T)=false)(a1:(((x.k:Int):Int)==1)=false)(a2:(((x.k:Int):Int)==2)=false)(a3:(((x.k:Int):Int)==3)=false)(a4:(((x.k:Int):Int)==4)=true)(a5:RD n 200 [pv p 0,sv (h.nx+2) 0 1 1] (zfr h x)=some (.tuple #[.string ⟨⟨s⟩⟩,.bool true],h1))(a6:RD n 251 (yX p d) h1=some (.tuple #[ndV y yr yn,.nilIface],h2)):∃ H,Fn n 248 (yX p d) h (.tuple #[ndV y yr yn,.nilIface]) H∧tl1 h2 h2.wm h.nx h2.nx H:=
 exT (kJ (ko hp) (kx hb hx)) [aS 72 z72,.l 0 3 1,.l 0 155 0,yF a0,yN (h.nx+1),.q (.l 0 3 1),.q (.l 0 155 0),yQ (iv T),.v 1,.l 0 155 0,.l 0 3 1,iA 155 199 4 b T k,.m 1 199 0,bS 0 199 uY,.w 3 199 0 (zbb x),yN (h.nx+2),.j 1,.q (.l 0 155 0),.q (.l 0 3 1),.q (.m 1 199 0),.j 3,.l 3 3 0,yF a1,yF a2,yF a3,yT a4,aS 9 [.string ⟨#[40]⟩],yC a5 (kZ h1),yC a6 (kI (ko g2_)),.w 0 72 0 (ndV y yr yn),.r 0 72 10,.z 1] []
theorem zwI(ts:List Tk)(x:Tk)(n:Nat)(hp:h.get p=some (uC b T k E))(hb:h.get b=some (uB ts))(hx:ts[k]? =some x)(_h1:k < T)(_h2:T < 4611686018427387904)(_hl:p < h.nx)(_hb:b < h.nx)(g2_:h2.get h.nx=some (.row 72 z72 0 false))(l2_:h.nx < h2.nx)(a0:((k:Int)==T)=false)(a1:(((x.k:Int):Int)==1)=false)(a2:(((x.k:Int):Int)==2)=false)(a3:(((x.k:Int):Int)==3)=false)(a4:(((x.k:Int):Int)==4)=true)(a5:RD n 200 [pv p 0,sv (h.nx+2) 0 1 1] (zfr h x)=some (.tuple #[.string ⟨⟨s⟩⟩,.bool true],h1))(a6:RD n 251 (yX p d) h1=some (.tuple #[zj,.iface 242 (pv q 0)],h2)):∃ H,Fn n 248 (yX p d) h (zba q) H∧tl1 h2 h2.wm h.nx h2.nx H:=
 exT (kJ (ko hp) (kx hb hx)) [aS 72 z72,.l 0 3 1,.l 0 155 0,yF a0,yN (h.nx+1),.q (.l 0 3 1),.q (.l 0 155 0),yQ (iv T),.v 1,.l 0 155 0,.l 0 3 1,iA 155 199 4 b T k,.m 1 199 0,bS 0 199 uY,.w 3 199 0 (zbb x),yN (h.nx+2),.j 1,.q (.l 0 155 0),.q (.l 0 3 1),.q (.m 1 199 0),.j 3,.l 3 3 0,yF a1,yF a2,yF a3,yT a4,aS 9 [.string ⟨#[40]⟩],yC a5 (kZ h1),yC a6 (kI (ko g2_)),.w 0 72 0 (zj),.r 0 72 10,.z 1] []
theorem zwD(hp:h.get p=some (uC b T k E))(hb:h.get b=some (uB ts))(hx:ts[k]? =some x)(_h1:k < T)(_h2:T < 4611686018427387904)(_hl:p < h.nx)(_hb:b < h.nx)(g1_:h1.get h.nx=some (.row 72 z72 0 false))(l1_:h.nx < h1.nx)(a0:((k:Int)==T)=false)(a1:(((x.k:Int):Int)==1)=false)(a2:(((x.k:Int):Int)==2)=false)(a3:(((x.k:Int):Int)==3)=false)(a4:(((x.k:Int):Int)==4)=false)(a5:RD n 177 [pv p 0] (zc2 h x)=some (.iface 242 (pv q 0),h1)):∃ H,Fn n 248 (yX p d) h (zba q) H∧tl1 h1 h1.wm h.nx h1.nx H:=
 exT (kJ (ko hp) (kx hb hx)) [aS 72 z72,.l 0 3 1,.l 0 155 0,yF a0,yN (h.nx+1),.q (.l 0 3 1),.q (.l 0 155 0),yQ (iv T),.v 1,.l 0 155 0,.l 0 3 1,iA 155 199 4 b T k,.m 1 199 0,bS 0 199 uY,.w 3 199 0 (zbb x),yN (h.nx+2),.j 1,.q (.l 0 155 0),.q (.l 0 3 1),.q (.m 1 199 0),.j 3,.l 3 3 0,yF a1,yF a2,yF a3,yF a4,yC a5 (kI (ko g1_)),.w 0 72 0 (zj),.r 0 72 10,.z 1] []
theorem zwL(t:BA)(n:Nat)(a0:decide ((t.data.toList.length:Int)>200)=false):Fn n 74 [.string t] h (.agg #[iv 3,iv 0,.string t]) (pt (al h.fh 27 zaQ) h.nx 27 [iv 3,iv 0,.string t]):=
 fnV (kZ h) [aS 27 zaQ,yF a0,.w 0 27 0 (.agg #[iv 3,iv 0,.string t]),.r 0 27 3]
theorem zqV(t:BA)(n:Nat)(a0:decide ((t.data.toList.length:Int)>200)=true)(a1:Pu n 107 [iv 7] zc1 (al h.fh 27 zaQ)):Fn n 74 [.string t] h zc1 (pt (al h.fh 27 zaQ) h.nx 27 ziG):=
 fnV (kZ h) [aS 27 zaQ,yT a0,yP a1,.w 0 27 0 zc1,.r 0 27 3]
theorem zxr:Fn n 107 [iv 7] h zc1 (pt (al h.fh 27 zaQ) h.nx 27 ziG):=
 fnV (kZ h) [aS 27 zaQ,bF,bF,.w 0 27 0 zc1,.r 0 27 3]
theorem zq6(a c ua uc n:Nat)(a0:Pu n 37 [.agg #[iv (a:Int),iv (c:Int)]] (.bool true) (ziJ h a c ua uc))(a1:Pu n 37 [.agg #[iv (ua:Int),iv (uc:Int)]] (.bool true) (ziJ h a c ua uc))(a2:jS (fun y x=>decide (y < x)) (iv (a:Int)) [iv (ua:Int)]=some (iv ((min a ua:Nat):Int)))(a3:jS (fun y x=>decide (y < x)) (iv (c:Int)) [iv (uc:Int)]=some (iv ((min c uc:Nat):Int)))(a4:jS (fun y x=>decide (y>x)) (iv (a:Int)) [iv (ua:Int)]=some (iv ((max a ua:Nat):Int)))(a5:jS (fun y x=>decide (y>x)) (iv (c:Int)) [iv (uc:Int)]=some (iv ((max c uc:Nat):Int))):Fn n 255 [.agg #[iv (a:Int),iv (c:Int)],.agg #[iv (ua:Int),iv (uc:Int)]] h (.tuple #[.agg #[iv ((min a ua:Nat):Int),iv ((min c uc:Nat):Int),iv ((max a ua:Nat):Int),iv ((max c uc:Nat):Int)],.bool true]) (pt (ziJ h a c ua uc) (h.nx+2) 43 [iv ((min a ua:Nat):Int),iv ((min c uc:Nat):Int),iv ((max a ua:Nat):Int),iv ((max c uc:Nat):Int)]):=
 fnT (kZ h) [aS 29 [iv (a:Int),iv (c:Int)],aS 29 [iv (ua:Int),iv (uc:Int)],aS 43 [iv 0,iv 0,iv 0,iv 0],.g 0 29 0 2,yP a0,.g 1 29 0 2,yP a1,.l 0 3 0,.l 1 3 0,yE a2,.l 0 3 1,.l 1 3 1,yE a3,.l 0 3 0,.l 1 3 0,yE a4,.l 0 3 1,.l 1 3 1,yE a5,.w 2 43 0 (.agg #[iv ((min a ua:Nat):Int),iv ((min c uc:Nat):Int),iv ((max a ua:Nat):Int),iv ((max c uc:Nat):Int)]),.r 2 43 4,.z 1]
end
def zdv(m:Int)(A:Bsy→Option (Nat×Nat))(N0:Nat):Prop:=
 (∀ l a c,A l=some (a,c)→1≤a∧a≤1000∧1≤c∧c≤50)∧
 ∀ (l:Bsy) (h:Heap) (n:Nat),N0≤n→Gl m h→l.length≤4000→
  match A l with
  |some (a,c)=>RD n 28 [.string ⟨⟨l⟩⟩] h=some (.tuple #[.agg #[iv (a:Int),iv (c:Int)],.bool true],h)
  |none=>∃ a c:Int,RD n 28 [.string ⟨⟨l⟩⟩] h=some (.tuple #[.agg #[iv a,iv c],.bool false],h)
theorem zjO(a c:Nat):jS (fun y x=>decide (y < x)) (iv (a:Int)) [iv (c:Int)]=some (iv ((min a c:Nat):Int)):=by
 show some (Value.int .i64 (if decide ((c:Int) < (a:Int))=true then(c:Int) else(a:Int)))=_
 congr 2
 by_cases h:c < a
 ·rw[if_pos (dT (by omega)),Nat.min_eq_right (by omega)]
 ·rw[if_neg (by simpa using h),Nat.min_eq_left (by omega)]
theorem zgP(a c:Nat):jS (fun y x=>decide (y>x)) (iv (a:Int)) [iv (c:Int)]=some (iv ((max a c:Nat):Int)):=by
 show some (Value.int .i64 (if decide ((c:Int)>(a:Int))=true then(c:Int) else(a:Int)))=_
 congr 2
 by_cases h:a < c
 ·rw[if_pos (dT (by omega)),Nat.max_eq_right (by omega)]
 ·rw[if_neg (by simpa using h),Nat.max_eq_left (by omega)]
theorem uQ{a c:Nat}(h:1≤a∧a≤1000∧1≤c∧c≤50)(g:Heap)(n:Nat)(hn:1≤n):RD n 37 [.agg #[iv (a:Int),iv (c:Int)]] g=some (.bool true,g):=by
 have:=vQ (a:Int) (c:Int) g n hn
 have e:wE (a:Int) (c:Int)=true:=by
  unfold wE
  rw[dT (by omega),dT (by omega),dT (by omega),dT (by omega)];rfl
 rw[e] at this
 exact this
theorem zn7{a c u w:Nat}(h1:1≤a∧a≤1000∧1≤c∧c≤50)(h2:1≤u∧u≤1000∧1≤w∧w≤50)(h:Heap)(n:Nat)(hn:2≤n):
  RD n 255 [.agg #[iv (a:Int),iv (c:Int)],.agg #[iv (u:Int),iv (w:Int)]] h=some (.tuple #[.agg #[iv ((min a u:Nat):Int),iv ((min c w:Nat):Int),iv ((max a u:Nat):Int),iv ((max c w:Nat):Int)],.bool true],h):=by
 obtain⟨n,rfl⟩:=zs_ n
 refine(zq6 h a c u w n (uQ h1 _ n (by omega)) (uQ h2 _ n (by omega)) (zjO _ _) (zjO _ _) (zgP _ _) (zgP _ _)).trans ?_
 rw[zk (by simp only[al,pt,zl,ze,zX];omega) rfl]
theorem zgF(l:Bsy)(h:Heap)(n:Nat)(hn:2≤n):RD n 74 [.string ⟨⟨l⟩⟩] h=some (if l.length≤200 then .agg #[iv 3,iv 0,.string ⟨⟨l⟩⟩] else .agg #[iv 4,iv 7,.string ⟨#[]⟩],h):=by
 obtain⟨n,rfl⟩:∃ m,n=m+1+1:=⟨n - 2,by omega⟩
 by_cases hl:l.length≤200
 ·rw[if_pos hl]
  refine(zwL h ⟨⟨l⟩⟩ (n+1) (zR (a:=l.length) (b:=200) (by omega))).trans ?_
  rw[zk (by simp only[al,pt,zl,ze,zX];omega) rfl]
 ·rw[if_neg hl]
  have e:RD (n+1) 107 [iv 7] (al h.fh 27 [iv 0,iv 0,.string ⟨#[]⟩])=some (.agg #[iv 4,iv 7,.string ⟨#[]⟩],al h.fh 27 [iv 0,iv 0,.string ⟨#[]⟩]):=by
   refine(zxr _ n).trans ?_
   rw[zk (by simp only[al,pt,zl,ze,zX,zfo];omega) rfl]
  refine(zqV h ⟨⟨l⟩⟩ (n+1) (wj (a:=l.length) (b:=200) (by omega)) e).trans ?_
  rw[zk (by simp only[al,pt,zl,ze,zX];omega) rfl]
section
variable {m:Int} {p b:Nat} {ts:List Tk} {E:Nat} {A:Bsy→Option (Nat×Nat)} {N0:Nat}
def zu9(m:Int)(h:Heap)(p b:Nat)(ts:List Tk)(E k:Nat)(A:Bsy→Option (Nat×Nat))(v:Value)(h':Heap):Prop:=
 Fr h h' p∧h'.wm≤h.wm∧match jP ts A k with
  |some (a,c)=>v= .tuple #[.agg #[iv (a:Int),iv (c:Int)],.nilIface]∧PSt m h' p b ts E (k+1)∧h'.wm≤p
  |none=>∃ q,v= .tuple #[.agg #[iv 0,iv 0],.iface 242 (pv q 0)]∧h.nx≤q∧h'.get q=some (.row 245 [iv (place ts E k:Int),iv 13] 0 false)∧PSt m h' p b ts E k
theorem zbi{h:Heap}{k q:Nat}{X:Option (Value×Heap)}{H hk:Heap}(e:X=some (zy h (.tuple #[.agg #[iv 0,iv 0],.iface 242 (pv q 0)]) H))(s0:PSt m h p b ts E k)(K:Kp h.fh hk)
  (gH:∀ c,c < hk.nx→c≠h.nx→H.get c=hk.get c) (nH:H.nx=hk.nx) (hq:h.nx < q) (gq:hk.get q=some (.row 245 [iv (place ts E k:Int),iv 13] 0 false)) (hc:jP ts A k=none):
  ∃ v h',X=some (v,h')∧zu9 m h p b ts E k A v h':=by
 have kn:h.nx≤hk.nx:=K.nx
 have F':Fr h H p:=⟨by omega,fun c hc _=>(gH c (nU hc K.nx) (by omega)).trans (K.get c hc)⟩
 have hpl:=s0.lt
 refine⟨_,_,jY e (zdl (Nat.le_of_lt hq)),F'.wm _,Nat.min_le_left _ _,?_⟩
 rw[hc]
 exact⟨q,rfl,Nat.le_of_lt hq,(gH q (za gq) (by omega)).trans gq,(s0.fr F' ((gH p (by omega) (by omega)).trans ((K.get p hpl).trans s0.pp)) s0.kT).wm⟩
theorem zhk(hA:zdv m A N0)(hlen:∀ x∈ts,x.t.length≤4000)(n:Nat)(hn:N0+4≤n)(h:Heap)(k:Nat)(s:PSt m h p b ts E k):∃ v h',RD n 254 [pv p 0] h=some (v,h')∧zu9 m h p b ts E k A v h':=by
 obtain⟨n,rfl⟩:=zs_ n
 have K0:Kp h.fh (al h.fh 29 [iv 0,iv 0]):=(Kp.refl _).al _ _
 have hT:=s.tT
 have g0:(al h.fh 29 [iv 0,iv 0]).get h.nx=some (.row 29 [iv 0,iv 0] 0 false):=gN (h:=h.fh)
 by_cases hk:k < ts.length
 ·obtain⟨x,hx⟩:=s.get hk
  have hbl:=za (s.some_b hk)
  by_cases h3:x.k=3
  ·have e3:(((x.k:Int):Int)==3)=true:=by rw[h3];rfl
   have eo:=zfe (s.fh.kp K0) n (by omega)
   cases ho:jC ts k with
   |true=>
    rw[ho] at eo
    obtain⟨h1,e1,K1,n1,g1⟩:=jz (s.fh.kp K0) n (by omega)
    have K01:=K0.trans K1
    obtain⟨H,e,g,nx,_⟩:=zxD h h1 p b k ts.length E _ ts x n (s.pp' hk) (s.some_b hk) hx hk (by omega) s.lt hbl ((K1.get _ (nS _)).trans g0) (nU (nS _) K1.nx) (zw hk) e3 eo e1
    exact zbi e s K01 g nx (nS _) g1 (by unfold jP;rw[hx];simp[ho])
   |false=>
    rw[ho] at eo
    have hc:jP ts A k=A x.t:=by unfold jP;rw[hx];simp[ho,h3]
    have hl:=hlen x (List.mem_of_getElem? hx)
    have hG:Gl m (zd 1 (al h.fh 29 [iv 0,iv 0])):=((s.fh.kp K0).gl).reserve 1
    have ha:=hA.2 x.t _ n (by omega) hG hl
    cases hAx:A x.t with
    |some v=>
     obtain⟨a,c⟩:=v
     rw[hAx] at ha
     obtain⟨H,e,g,nx,wm,wp,w⟩:=zxE h p b k ts.length E (a:Int) (c:Int) ts x n (s.pp' hk) (s.some_b hk) hx hk (by omega) s.lt hbl (s.pb hk) (zw hk) e3 eo ha
     have F':Fr h H p:=⟨by omega,g⟩
     refine⟨_,_,ur e (by have:=s.lt;omega),F'.wm _,Nat.min_le_left _ _,?_⟩
     rw[hc,hAx]
     exact⟨rfl,(s.fr F' (by rw[w,jg hk];rfl) (by omega)).wm,nT (Nat.min_le_right _ _) wp⟩
    |none=>
     rw[hAx] at ha
     obtain⟨a,c,ha⟩:=ha
     have KR:Kp h.fh (zd 1 (al h.fh 29 [iv 0,iv 0])):=⟨by rw[zK];show h.nx≤h.nx+1+1;omega,fun c hc=>(wJ 1 _ (Nat.lt_succ_of_lt hc)).trans (K0.get c hc),by rw[zJ];exact K0.wm⟩
     have nR:(zd 1 (al h.fh 29 [iv 0,iv 0])).nx=h.nx+2:=by rw[zK];rfl
     have K2:=(KR.pt (b:=h.nx+1) 29 [iv 0,iv 0] (by show h.nx≤h.nx+1;omega) (by omega)).pt (b:=h.nx+1) 29 [iv a,iv c] (by show h.nx≤h.nx+1;omega) (by show h.nx+1 < (zd 1 (al h.fh 29 [iv 0,iv 0])).nx;omega)
     obtain⟨h1,e1,K1,n1,g1⟩:=jz (s.fh.kp K2) n (by omega)
     have nn:(pt (pt (zd 1 (al h.fh 29 [iv 0,iv 0])) (h.nx+1) 29 [iv 0,iv 0]) (h.nx+1) 29 [iv a,iv c]).nx=h.nx+2:=nR
     have gz:(pt (pt (zd 1 (al h.fh 29 [iv 0,iv 0])) (h.nx+1) 29 [iv 0,iv 0]) (h.nx+1) 29 [iv a,iv c]).get h.nx=some (.row 29 [iv 0,iv 0] 0 false):=gO (gO (gR g0) (by omega) (by omega)) (by show h.nx+1 < (zd 1 (al h.fh 29 [iv 0,iv 0])).nx;omega) (by omega)
     obtain⟨H,e,g,nx,_⟩:=zxF h h1 p b k ts.length E _ a c ts x n (s.pp' hk) (s.some_b hk) hx hk (by omega) s.lt hbl ((K1.get _ (by omega)).trans gz) (by have:=K1.nx;omega) (zw hk) e3 eo ha e1
     exact zbi e s (K2.trans K1) g nx (by omega) g1 (by rw[hc,hAx])
  ·have e3:(((x.k:Int):Int)==3)=false:=by have:=eqN x.k 3;rw[dF h3] at this;exact this
   obtain⟨h1,e1,K1,n1,g1⟩:=jz (s.fh.kp K0) n (by omega)
   obtain⟨H,e,g,nx,_⟩:=zBP h h1 p b k ts.length E _ ts x n (s.pp' hk) (s.some_b hk) hx hk (by omega) s.lt hbl ((K1.get _ (nS _)).trans g0) (nU (nS _) K1.nx) (zw hk) e3 e1
   exact zbi e s (K0.trans K1) g nx (nS _) g1 (by unfold jP;rw[hx];simp[h3])
 ·obtain⟨h1,e1,K1,n1,g1⟩:=jz (s.fh.kp K0) n (by omega)
  obtain⟨H,e,g,nx,_⟩:=zuG h h1 p k ts.length E _ (tsR b ts) n s.pp s.lt ((K1.get _ (nS _)).trans g0) (nU (nS _) K1.nx) (zE hk) e1
  exact zbi e s (K0.trans K1) g nx (nS _) g1 (by unfold jP;rw[List.getElem?_eq_none (by omega)])
end
noncomputable section
abbrev zps(t:Bsy):Vs:=[iv 6,iv 0,iv 0,.string ⟨#[]⟩,iv 0,iv 0,iv 0,iv 0,.string ⟨⟨t⟩⟩,.slice none 0 0]
abbrev vU(t:Bsy)(ab j:Nat):AObj:=.row 72 [iv 6,iv 0,iv 0,.string ⟨#[]⟩,iv 0,iv 0,iv 0,iv 0,.string ⟨⟨t⟩⟩,sv ab 0 j j] 0 false
abbrev vT(p d:Nat)(t:Bsy)(B6 B8:Nat):List (Nat×Value):=[(0,pv p 0),(1,iv (d:Int)),(2,.string ⟨⟨t⟩⟩),(6,pv B6 0),(8,pv B8 0)]
abbrev ziP(t:Bsy)(h1:Heap)(j:Nat):Vs:=[iv 6,iv 0,iv 0,.string ⟨#[]⟩,iv 0,iv 0,iv 0,iv 0,.string ⟨⟨t⟩⟩,sv (h1.nx+2) 0 (j+1) (j+1)]
abbrev ziO(t:Bsy)(h1:Heap):Vs:=[iv 6,iv 0,iv 0,.string ⟨#[]⟩,iv 0,iv 0,iv 0,iv 0,.string ⟨⟨t⟩⟩,sv (h1.nx+2) 0 1 1]
abbrev zvd(h:Heap)(p:Nat)(r:OA)(T k E:Nat):Heap:=al (pt (al h.fh 72 z72) p 274 [.slice r T T,iv ((k:Int)+2),iv E]) 72 z72
abbrev zad:Value:=.tuple #[.string ⟨#[]⟩,.bool false]
abbrev zcw(h1:Heap)(x:Hd)(xr:OA)(xn:Nat):Heap:=al (pt (al h1 72 z72) h1.nx 72 (ndL x xr xn)) 72 (ndL x xr xn)
abbrev zaB(p d:Nat):Vs:=[pv p 0,iv ((d:Int)+1)]
abbrev zdH(r:OA)(T k E:Nat):AObj:=.row 274 [.slice r T T,iv (k:Int),iv E] 0 false
abbrev zdG(p d:Nat)(t:Bsy):Vs:=[pv p 0,iv (d:Int),.string ⟨⟨t⟩⟩]
abbrev zdF(k:Nat):Value:=iv ((k:Int)+2)
abbrev zgf(p d:Nat)(t:Bsy)(h:Heap)(k:Nat):List (Nat×Value):=[(0,pv p 0),(1,iv (d:Int)),(2,.string ⟨⟨t⟩⟩),(6,pv h.nx 0),(7,.nilIface),(17,.string ⟨⟨t⟩⟩),(18,iv ((⟨⟨t⟩⟩:BA).data.toList.length)),(19,.bool false),(23,pv p 0),(24,pv p 0),(25,pv p 1),(26,iv (k:Int)),(27,iv ((k:Int)+2)),(28,pv p 0),(29,pv p 1),(30,.string ⟨⟨t⟩⟩),(31,.agg #[iv 6,iv 0,iv 0,.string ⟨#[]⟩,iv 0,iv 0,iv 0,iv 0,.string ⟨⟨t⟩⟩,.slice none 0 0]),(8,pv (h.nx+1) 0),(33,pv p 0),(34,sv (h.nx+2) 0 1 1),(35,.tuple #[.string ⟨#[]⟩,.bool false]),(32,.tuple #[.string ⟨#[]⟩,.bool false]),(36,.string ⟨#[]⟩),(37,.bool false),(9,.string ⟨#[]⟩),(10,.bool false),(38,.bool false)]
abbrev zbT(t:Bsy):Value:=.agg #[iv 6,iv 0,iv 0,.string ⟨#[]⟩,iv 0,iv 0,iv 0,iv 0,.string ⟨⟨t⟩⟩,.slice none 0 0]
abbrev zal(h:Heap)(p:Nat)(r:OA)(T k E:Nat)(t:Bsy):Heap:=al (pt (zvd h p r T k E) (h.nx+1) 72 (zps t)) 9 [.string ⟨#[41]⟩]
abbrev qE(t:Bsy):AObj:=.row 72 (zps t) 0 false
abbrev zbS(h2:Heap)(B8:Nat)(t:Bsy)(h1:Heap):Heap:=al (pt h2 B8 72 (ziO t h1)) 9 [.string ⟨#[44]⟩]
abbrev zbR(h2:Heap)(B8:Nat)(t:Bsy)(h1:Heap)(j:Nat):Heap:=al (pt h2 B8 72 (ziP t h1 j)) 9 [.string ⟨#[44]⟩]
abbrev zge(q:Nat):Value:=.tuple #[zj,.iface 242 (pv q 0)]
variable (h h1 hL h2 h3:Heap) (p d k T E B6 B8 ab j q n:Nat) (r:OA) (t s:Bsy) (x:Hd) (xr:OA) (xn:Nat)
theorem zxK(_hd:d < 100)(g8:h.get B8=some (qE t))(g6:h1.get B6=some (.row 72 z72 0 false))(_l6:B6 < h1.nx)(a0:RD n 176 (zaB p d) h=some (.tuple #[zj,.iface 242 (pv q 0)],h1)):∃ H,Bd n 79 [1,1,1,1,1,0,0,0] Tryz.f253 (vT p d t B6 B8) h .ret [(6,pv B6 0),(7,.iface 242 (pv q 0))] H∧tw1 h1 h1.wm B6 (h1.nx+1) H (H.get B6=some (.row 72 z72 0 false)):=
 bdE (kI (ko g8)) [.l 0 70 9,bT,yW ((d:Int)+1),yC a0 (kI (ko g6)),aS 72 z72,.w 1 72 0 (zj),bT,.w 0 72 0 (zj),.z 0] [0]
theorem zuK(_hd:d < 100)(g8:h.get B8=some (qE t))(g81:h1.get B8=some (qE t))(g82:h2.get B8=some (qE t))(_l2:B8 < h2.nx)(_l1:B8 < h1.nx)(a0:RD n 176 (zaB p d) h=some (.tuple #[ndV x xr xn,.nilIface],h1))(a1:zu En (zcw h1 x xr xn) #[70,70] (.slice none 0 0) (sv (h1.nx+1) 0 1 1)=some (sv (h1.nx+2) 0 1 1,h2))(a2:RD n 200 [pv p 0,sv h2.nx 0 1 1] (zbS h2 B8 t h1)=some (.tuple #[.string ⟨⟨s⟩⟩,.bool true],h3)):Bd n 79 [1,1,1,1,1,0,0,0] Tryz.f253 (vT p d t B6 B8) h .normal (vT p d t B6 B8) h3:=
 bdF (kI (ko g8)) [.l 0 70 9,bT,yW ((d:Int)+1),yC a0 (kI (ko g81)),aS 72 z72,.w 1 72 0 (ndV x xr xn),bF,.l 0 70 9,.g 1 72 0 10,aS 72 (ndL x xr xn),yC a1 (kI (ko g82)),.w 0 70 9 (sv (h1.nx+2) 0 1 1),aS 9 [.string ⟨#[44]⟩],yC a2 (kZ h3),.z 0]
theorem zuM(_hd:d < 100)(g8:h.get B8=some (qE t))(g81:h1.get B8=some (qE t))(g82:h2.get B8=some (qE t))(_l2:B8 < h2.nx)(_l1:B8 < h1.nx)(g83:h3.get B8=some (.row 72 (ziO t h1) 0 false))(g63:h3.get B6=some (.row 72 z72 0 false))(_l3:B6 < h3.nx)(a0:RD n 176 (zaB p d) h=some (.tuple #[ndV x xr xn,.nilIface],h1))(a1:zu En (zcw h1 x xr xn) #[70,70] (.slice none 0 0) (sv (h1.nx+1) 0 1 1)=some (sv (h1.nx+2) 0 1 1,h2))(a2:Pu n 200 [pv p 0,sv h2.nx 0 1 1] zad (zbS h2 B8 t h1))(a3:RD n 200 [pv p 0,sv (h2.nx+1) 0 1 1] (al (zbS h2 B8 t h1) 9 [.string ⟨#[41]⟩])=some (.tuple #[.string ⟨⟨s⟩⟩,.bool true],h3)):∃ H,Bd n 79 [1,1,1,1,1,0,0,0] Tryz.f253 (vT p d t B6 B8) h .ret [(6,pv B6 0),(7,.nilIface)] H∧tw1 h3 h3.wm B6 h3.nx H (H.get B6=some (.row 72 (ziO t h1) 0 false)):=
 bdE (kI (ko g8)) [.l 0 70 9,bT,yW ((d:Int)+1),yC a0 (kI (ko g81)),aS 72 z72,.w 1 72 0 (ndV x xr xn),bF,.l 0 70 9,.g 1 72 0 10,aS 72 (ndL x xr xn),yC a1 (kI (ko g82)),.w 0 70 9 (sv (h1.nx+2) 0 1 1),aS 9 [.string ⟨#[44]⟩],yP a2,aS 9 [.string ⟨#[41]⟩],yC a3 (kI (ko g83)),.g 0 72 0 10,.s (kI (ko g63)),.w 0 72 0 (.agg #[iv 6,iv 0,iv 0,.string ⟨#[]⟩,iv 0,iv 0,iv 0,iv 0,.string ⟨⟨t⟩⟩,sv (h1.nx+2) 0 1 1]),.z 0] [0]
theorem zuO(_hd:d < 100)(g8:h.get B8=some (qE t))(g81:h1.get B8=some (qE t))(g82:h2.get B8=some (qE t))(_l2:B8 < h2.nx)(_l1:B8 < h1.nx)(a0:RD n 176 (zaB p d) h=some (.tuple #[ndV x xr xn,.nilIface],h1))(a1:zu En (zcw h1 x xr xn) #[70,70] (.slice none 0 0) (sv (h1.nx+1) 0 1 1)=some (sv (h1.nx+2) 0 1 1,h2))(a2:Pu n 200 [pv p 0,sv h2.nx 0 1 1] zad (zbS h2 B8 t h1))(a3:Pu n 200 [pv p 0,sv (h2.nx+1) 0 1 1] zad (al (zbS h2 B8 t h1) 9 [.string ⟨#[41]⟩])):∃ H,Bd n 79 [1,1,1,1,1,0,0,0] Tryz.f253 (vT p d t B6 B8) h (.exit 0) [(0,pv p 0),(6,pv B6 0)] H∧tl1 h2 h2.wm B8 (h2.nx+2) H:=
 bdE (kI (ko g8)) [.l 0 70 9,bT,yW ((d:Int)+1),yC a0 (kI (ko g81)),aS 72 z72,.w 1 72 0 (ndV x xr xn),bF,.l 0 70 9,.g 1 72 0 10,aS 72 (ndL x xr xn),yC a1 (kI (ko g82)),.w 0 70 9 (sv (h1.nx+2) 0 1 1),aS 9 [.string ⟨#[44]⟩],yP a2,aS 9 [.string ⟨#[41]⟩],yP a3,.z 0] []
theorem zrY(g8:h.get B8=some (vU t ab j))(a0:decide ((j:Int) < 10)=false):Bd n 79 [1,1,1,1,1,0,0,0] Tryz.f253 (vT p d t B6 B8) h (.exit 0) [(0,pv p 0),(6,pv B6 0)] h:=
 bdF (kI (ko g8)) [.l 0 70 9,yF a0,.z 0]
theorem zxJ(_hd:d < 100)(g8:h.get B8=some (vU t ab j))(g6:h1.get B6=some (.row 72 z72 0 false))(_l6:B6 < h1.nx)(a0:decide ((j:Int) < 10)=true)(a1:RD n 176 (zaB p d) h=some (.tuple #[zj,.iface 242 (pv q 0)],h1)):∃ H,Bd n 79 [1,1,1,1,1,0,0,0] Tryz.f253 (vT p d t B6 B8) h .ret [(6,pv B6 0),(7,.iface 242 (pv q 0))] H∧tw1 h1 h1.wm B6 (h1.nx+1) H (H.get B6=some (.row 72 z72 0 false)):=
 bdE (kI (ko g8)) [.l 0 70 9,yT a0,yW ((d:Int)+1),yC a1 (kI (ko g6)),aS 72 z72,.w 1 72 0 (zj),bT,.w 0 72 0 (zj),.z 0] [0]
theorem zuJ(_hd:d < 100)(g8:h.get B8=some (vU t ab j))(g81:h1.get B8=some (vU t ab j))(g82:h2.get B8=some (vU t ab j))(_l2:B8 < h2.nx)(_l1:B8 < h1.nx)(a0:decide ((j:Int) < 10)=true)(a1:RD n 176 (zaB p d) h=some (.tuple #[ndV x xr xn,.nilIface],h1))(a2:zu En (zcw h1 x xr xn) #[70,70] (sv ab 0 j j) (sv (h1.nx+1) 0 1 1)=some (sv (h1.nx+2) 0 (j+1) (j+1),h2))(a3:RD n 200 [pv p 0,sv h2.nx 0 1 1] (zbR h2 B8 t h1 j)=some (.tuple #[.string ⟨⟨s⟩⟩,.bool true],h3)):Bd n 79 [1,1,1,1,1,0,0,0] Tryz.f253 (vT p d t B6 B8) h .normal (vT p d t B6 B8) h3:=
 bdF (kI (ko g8)) [.l 0 70 9,yT a0,yW ((d:Int)+1),yC a1 (kI (ko g81)),aS 72 z72,.w 1 72 0 (ndV x xr xn),bF,.l 0 70 9,.g 1 72 0 10,aS 72 (ndL x xr xn),yC a2 (kI (ko g82)),.w 0 70 9 (sv (h1.nx+2) 0 (j+1) (j+1)),aS 9 [.string ⟨#[44]⟩],yC a3 (kZ h3),.z 0]
theorem zuL(_hd:d < 100)(g8:h.get B8=some (vU t ab j))(g81:h1.get B8=some (vU t ab j))(g82:h2.get B8=some (vU t ab j))(_l2:B8 < h2.nx)(_l1:B8 < h1.nx)(g83:h3.get B8=some (.row 72 (ziP t h1 j) 0 false))(g63:h3.get B6=some (.row 72 z72 0 false))(_l3:B6 < h3.nx)(a0:decide ((j:Int) < 10)=true)(a1:RD n 176 (zaB p d) h=some (.tuple #[ndV x xr xn,.nilIface],h1))(a2:zu En (zcw h1 x xr xn) #[70,70] (sv ab 0 j j) (sv (h1.nx+1) 0 1 1)=some (sv (h1.nx+2) 0 (j+1) (j+1),h2))(a3:Pu n 200 [pv p 0,sv h2.nx 0 1 1] zad (zbR h2 B8 t h1 j))(a4:RD n 200 [pv p 0,sv (h2.nx+1) 0 1 1] (al (zbR h2 B8 t h1 j) 9 [.string ⟨#[41]⟩])=some (.tuple #[.string ⟨⟨s⟩⟩,.bool true],h3)):∃ H,Bd n 79 [1,1,1,1,1,0,0,0] Tryz.f253 (vT p d t B6 B8) h .ret [(6,pv B6 0),(7,.nilIface)] H∧tw1 h3 h3.wm B6 h3.nx H (H.get B6=some (.row 72 (ziP t h1 j) 0 false)):=
 bdE (kI (ko g8)) [.l 0 70 9,yT a0,yW ((d:Int)+1),yC a1 (kI (ko g81)),aS 72 z72,.w 1 72 0 (ndV x xr xn),bF,.l 0 70 9,.g 1 72 0 10,aS 72 (ndL x xr xn),yC a2 (kI (ko g82)),.w 0 70 9 (sv (h1.nx+2) 0 (j+1) (j+1)),aS 9 [.string ⟨#[44]⟩],yP a3,aS 9 [.string ⟨#[41]⟩],yC a4 (kI (ko g83)),.g 0 72 0 10,.s (kI (ko g63)),.w 0 72 0 (.agg #[iv 6,iv 0,iv 0,.string ⟨#[]⟩,iv 0,iv 0,iv 0,iv 0,.string ⟨⟨t⟩⟩,sv (h1.nx+2) 0 (j+1) (j+1)]),.z 0] [0]
theorem zuN(_hd:d < 100)(g8:h.get B8=some (vU t ab j))(g81:h1.get B8=some (vU t ab j))(g82:h2.get B8=some (vU t ab j))(_l2:B8 < h2.nx)(_l1:B8 < h1.nx)(a0:decide ((j:Int) < 10)=true)(a1:RD n 176 (zaB p d) h=some (.tuple #[ndV x xr xn,.nilIface],h1))(a2:zu En (zcw h1 x xr xn) #[70,70] (sv ab 0 j j) (sv (h1.nx+1) 0 1 1)=some (sv (h1.nx+2) 0 (j+1) (j+1),h2))(a3:Pu n 200 [pv p 0,sv h2.nx 0 1 1] zad (zbR h2 B8 t h1 j))(a4:Pu n 200 [pv p 0,sv (h2.nx+1) 0 1 1] zad (al (zbR h2 B8 t h1 j) 9 [.string ⟨#[41]⟩])):∃ H,Bd n 79 [1,1,1,1,1,0,0,0] Tryz.f253 (vT p d t B6 B8) h (.exit 0) [(0,pv p 0),(6,pv B6 0)] H∧tl1 h2 h2.wm B8 (h2.nx+2) H:=
 bdE (kI (ko g8)) [.l 0 70 9,yT a0,yW ((d:Int)+1),yC a1 (kI (ko g81)),aS 72 z72,.w 1 72 0 (ndV x xr xn),bF,.l 0 70 9,.g 1 72 0 10,aS 72 (ndL x xr xn),yC a2 (kI (ko g82)),.w 0 70 9 (sv (h1.nx+2) 0 (j+1) (j+1)),aS 9 [.string ⟨#[44]⟩],yP a3,aS 9 [.string ⟨#[41]⟩],yP a4,.z 0] []
theorem zr0(t:BA)(g1:h1.get h.nx=some (.row 72 z72 0 false))(_l1:h.nx < h1.nx)(a0:decide ((t.data.toList.length:Int)>8)=true)(a1:RD n 177 [pv p 0] (al h.fh 72 z72)=some (.iface 242 (pv q 0),h1)):∃ H,Fn n 253 [pv p 0,iv (d:Int),.string t] h (zge q) H∧tl1 h1 h1.wm h.nx h1.nx H:=
 exT (kZ h) [aS 72 z72,yT a0,yC a1 (kI (ko g1)),.w 0 72 0 (zj),.r 0 72 10,.z 1] []
theorem zuU(hp:h.get p=some (zdH r T k E))(_h1:k < 1000)(_hl:p < h.nx)(g1:h1.get h.nx=some (.row 72 z72 0 false))(_l1:h.nx < h1.nx)(g8:h1.get (h.nx+1)=some (qE t))(a0:decide (((⟨⟨t⟩⟩:BA).data.toList.length:Int)>8)=false)(a1:RD n 200 [pv p 0,sv (h.nx+2) 0 1 1] (zal h p r T k E t)=some (.tuple #[.string ⟨⟨s⟩⟩,.bool true],h1)):∃ H,Fn n 253 (zdG p d t) h (.tuple #[.agg #[iv 6,iv 0,iv 0,.string ⟨#[]⟩,iv 0,iv 0,iv 0,iv 0,.string ⟨⟨t⟩⟩,.slice none 0 0],.nilIface]) H∧tw1 h1 h1.wm h.nx h1.nx H (H.get h.nx=some (qE t)):=
 exT (kI (ko hp)) [aS 72 z72,yF a0,.l 0 3 1,yW ((k:Int)+2),.w 0 3 1 (zdF k),aS 72 z72,.w 2 72 0 (zbT t),aS 9 [.string ⟨#[41]⟩],yC a1 (kJ (ko g8) (ko g1)),.g 0 72 0 10,.w 1 72 0 (zbT t),.r 1 72 10,.z 1] [1]
theorem zuT(hp:h.get p=some (zdH r T k E))(_h1:k < 1000)(_hl:p < h.nx)(gL:hL.get h.nx=some (.row 72 (ndL x xr xn) 0 false))(a0:decide (((⟨⟨t⟩⟩:BA).data.toList.length:Int)>8)=false)(a1:Pu n 200 [pv p 0,sv (h.nx+2) 0 1 1] zad (zal h p r T k E t))(a2:Lf n 79 [1,1,1,1,1,0,0,0] Tryz.f253 (zgf p d t h k) (zal h p r T k E t) .ret [(6,pv h.nx 0),(7,.nilIface)] hL):Fn n 253 (zdG p d t) h (.tuple #[ndV x xr xn,.nilIface]) hL:=
 fnT (kI (ko hp)) [aS 72 z72,yF a0,.l 0 3 1,yW ((k:Int)+2),.w 0 3 1 (zdF k),aS 72 z72,.w 2 72 0 (zbT t),aS 9 [.string ⟨#[41]⟩],yP a1,yS a2 (kI (ko gL)),.r 0 72 10,.z 1]
theorem zxM(hp:h.get p=some (zdH r T k E))(_h1:k < 1000)(_hl:p < h.nx)(gL:hL.get h.nx=some (.row 72 z72 0 false))(a0:decide (((⟨⟨t⟩⟩:BA).data.toList.length:Int)>8)=false)(a1:Pu n 200 [pv p 0,sv (h.nx+2) 0 1 1] zad (zal h p r T k E t))(a2:Lf n 79 [1,1,1,1,1,0,0,0] Tryz.f253 (zgf p d t h k) (zal h p r T k E t) .ret [(6,pv h.nx 0),(7,.iface 242 (pv q 0))] hL):Fn n 253 (zdG p d t) h (zge q) hL:=
 fnT (kI (ko hp)) [aS 72 z72,yF a0,.l 0 3 1,yW ((k:Int)+2),.w 0 3 1 (zdF k),aS 72 z72,.w 2 72 0 (zbT t),aS 9 [.string ⟨#[41]⟩],yP a1,yS a2 (kI (ko gL)),.r 0 72 10,.z 1]
theorem zxN(hp:h.get p=some (zdH r T k E))(_h1:k < 1000)(_hl:p < h.nx)(g1:h1.get h.nx=some (.row 72 z72 0 false))(_l1:h.nx < h1.nx)(a0:decide (((⟨⟨t⟩⟩:BA).data.toList.length:Int)>8)=false)(a1:Pu n 200 [pv p 0,sv (h.nx+2) 0 1 1] zad (zal h p r T k E t))(a2:Lf n 79 [1,1,1,1,1,0,0,0] Tryz.f253 (zgf p d t h k) (zal h p r T k E t) (.exit 0) [(0,pv p 0),(6,pv h.nx 0)] hL)(a3:RD n 177 [pv p 0] hL=some (.iface 242 (pv q 0),h1)):∃ H,Fn n 253 (zdG p d t) h (zge q) H∧tl1 h1 h1.wm h.nx h1.nx H:=
 exT (kI (ko hp)) [aS 72 z72,yF a0,.l 0 3 1,yW ((k:Int)+2),.w 0 3 1 (zdF k),aS 72 z72,.w 2 72 0 (zbT t),aS 9 [.string ⟨#[41]⟩],yP a1,yS a2 (kZ hL),yC a3 (kI (ko g1)),.w 0 72 0 (zj),.r 0 72 10,.z 1] []
end
end Go.PanE
