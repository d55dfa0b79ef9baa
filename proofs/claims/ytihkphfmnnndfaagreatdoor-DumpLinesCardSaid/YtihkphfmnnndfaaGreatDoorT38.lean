/-
 Part 38 of the proof of Rows.DumpLinesCardSaid. No conditions.
-/
import Derived.Test.YtihkphfmnnndfaaGreatDoorT37
namespace Go.PanE
open Go.Proofs
noncomputable section
abbrev zL:Vs:=[iv 0,iv 0,iv 0,.string ⟨#[]⟩,iv 0,iv 0,iv 0,.string ⟨#[]⟩,iv 0,iv 0,iv 0,iv 0,.string ⟨#[]⟩,.slice none 0 0]
abbrev zdh:AObj:=.row 84 [.iface 309 (pv 11 0)] 0 true
abbrev ztx:Value:=.agg #[iv 1,iv 1,iv 1,.string ⟨#[]⟩,iv 0,iv 0,iv 0,.string ⟨#[]⟩,iv 0,iv 0,iv 0,iv 0,.string ⟨#[]⟩,.slice none 0 0]
abbrev ztw:Value:=.agg #[iv 1,iv 1,iv 0,.string ⟨#[]⟩,iv 0,iv 0,iv 0,.string ⟨#[]⟩,iv 0,iv 0,iv 0,iv 0,.string ⟨#[]⟩,.slice none 0 0]
abbrev znu(sk sa sb:Int)(st:BA)(y:Hd)(yr:OA)(yn:Nat):Value:=.agg #[iv sk,iv sa,iv sb,.string st,iv y.k,iv y.a,iv y.b,.string y.t,iv y.r0,iv y.c0,iv y.r1,iv y.c1,.string y.nm,.slice yr yn yn]
abbrev zeH:Vs:=[iv 0,iv 0,.string ⟨#[]⟩]
abbrev ztv(t:BA):Value:=.tuple #[.agg #[iv 1,iv 3,iv 0,.string t,iv 0,iv 0,iv 0,.string ⟨#[]⟩,iv 0,iv 0,iv 0,iv 0,.string ⟨#[]⟩,.slice none 0 0],.nilIface]
abbrev zdg(h:Heap):Heap:=al h.fh 149 [.pointer none]
abbrev ztu(a:Int):Value:=.agg #[iv 1,iv 2,iv a,.string ⟨#[]⟩,iv 0,iv 0,iv 0,.string ⟨#[]⟩,iv 0,iv 0,iv 0,iv 0,.string ⟨#[]⟩,.slice none 0 0]
abbrev zaJ(a:Int):Value:=.agg #[iv a,.bool false]
abbrev zpL(t:BA):Value:=.agg #[iv 1,iv 3,iv 0,.string t,iv 0,iv 0,iv 0,.string ⟨#[]⟩,iv 0,iv 0,iv 0,iv 0,.string ⟨#[]⟩,.slice none 0 0]
abbrev zdS(s:BA):Vs:=[.string (zv s 1 s.data.toList.length)]
abbrev vZ:Value:=.agg #[iv 0,iv 0,iv 0,.string ⟨#[]⟩,iv 0,iv 0,iv 0,.string ⟨#[]⟩,iv 0,iv 0,iv 0,iv 0,.string ⟨#[]⟩,.slice none 0 0]
abbrev zju:Value:=.tuple #[.agg #[iv 0,iv 0,iv 0,.string ⟨#[]⟩,iv 0,iv 0,iv 0,.string ⟨#[]⟩,iv 0,iv 0,iv 0,iv 0,.string ⟨#[]⟩,.slice none 0 0],.iface 309 (pv 11 0)]
abbrev zjt:Value:=.tuple #[.agg #[iv 0,iv 0,iv 0,.string ⟨#[]⟩,iv 0,iv 0,iv 0,.string ⟨#[]⟩,iv 0,iv 0,iv 0,iv 0,.string ⟨#[]⟩,.slice none 0 0],iv 0,iv 2]
abbrev zpK(h1:Heap):Value:=.tuple #[.agg #[iv 0,iv 0,iv 0,.string ⟨#[]⟩,iv 0,iv 0,iv 0,.string ⟨#[]⟩,iv 0,iv 0,iv 0,iv 0,.string ⟨#[]⟩,.slice none 0 0],.iface 149 (pv (h1.nx+1) 0)]
abbrev zfH:Value:=.agg #[iv 4,iv 7,.string ⟨#[]⟩]
abbrev zpJ(y:Hd)(yr:OA)(yn:Nat):Value:=.agg #[iv 2,iv 0,iv 0,.string ⟨#[]⟩,iv y.k,iv y.a,iv y.b,.string y.t,iv y.r0,iv y.c0,iv y.r1,iv y.c1,.string y.nm,.slice yr yn yn]
abbrev zfG(a:Int):Value:=.tuple #[iv a,.bool false]
abbrev zfF(t:BA):Value:=.agg #[iv 3,iv 0,.string t]
variable (h h1:Heap) (s t:BA) (q:Nat) (d:BA) (e c:Nat) (a:Int) (n:Nat) (y:Hd) (yr:OA) (yn:Nat)
theorem zlx(q n:Nat)(a0:RD n 106 [.string s,iv 10,iv 64] h.fh=some (.tuple #[iv a,.iface 279 (pv q 0)],h1)):Fn n 73 [.string s] h (.tuple #[iv 0,.bool false]) h1:=
 fnT (kZ h) [yC a0 (kZ h1),bT,.z 0]
theorem zwO(a0:Pu n 106 [.string s,iv 10,iv 64] (.tuple #[iv a,.nilIface]) h.fh)(a1:Pu n 45 [iv a] (.string d) h.fh)(a2:(!bqS d s)=true):Fn n 73 [.string s] h (.tuple #[iv 0,.bool false]) h.fh:=
 fnT (kZ h) [yP a0,bF,yP a1,yT a2,.z 0]
theorem zwN(a0:Pu n 106 [.string s,iv 10,iv 64] (.tuple #[iv a,.nilIface]) h.fh)(a1:Pu n 45 [iv a] (.string d) h.fh)(a2:(!bqS d s)=false):Fn n 73 [.string s] h (.tuple #[iv a,.bool true]) h.fh:=
 fnT (kZ h) [yP a0,bF,yP a1,yF a2,.z 0]
theorem zAk(a0:Pu n 70 [iv a,iv 10] (.string d) h.fh):Fn n 45 [iv a] h (.string d) h.fh:=
 fnV (kZ h) [yP a0,.z 0]
theorem zvC(g1_:h1.get h.nx=some (.row 74 zL 0 false))(l1_:h.nx < h1.nx)(a0:RD n 105 [.string s] (al h.fh 74 zL)=some (.tuple #[ndV y yr yn,iv (e:Int),iv (c:Int)],h1))(a1:((c:Int)==0)=true):∃ H,Fn n 72 [.string s] h (.tuple #[.agg #[iv 2,iv 0,iv 0,.string ⟨#[]⟩,iv y.k,iv y.a,iv y.b,.string y.t,iv y.r0,iv y.c0,iv y.r1,iv y.c1,.string y.nm,.slice yr yn yn],.nilIface]) H∧tl1 h1 h1.wm h.nx (h1.nx+1) H:=
 exT (kZ h) [aS 74 zL,yC a0 (kI (ko g1_)),aS 72 z72,.w 1 72 0 (ndV y yr yn),yT a1,.g 1 72 0 10,.w 0 74 0 (zpJ y yr yn),.r 0 74 14,.z 1] []
theorem zvD(g1_:h1.get h.nx=some (.row 74 zL 0 false))(l1_:h.nx < h1.nx)(hg1:h1.get 1=some zdh)(_h6:6≤h.nx)(_he:e < 100000)(a0:RD n 105 [.string s] (al h.fh 74 zL)=some (.tuple #[ndV y yr yn,iv (e:Int),iv (c:Int)],h1))(a1:((c:Int)==0)=false)(a2:((c:Int)==2)=true):∃ H,Fn n 72 [.string s] h (zpK h1) H∧tw1 h1 h1.wm h.nx (h1.nx+2) H (H.get (h1.nx+1)=some (.row 152 [iv ((e:Int)+1),iv (c:Int),.iface 309 (pv 11 0)] 0 false)):=
 exT (kZ h) [aS 74 zL,yC a0 (kJ (ko hg1) (ko g1_)),aS 72 z72,.w 2 72 0 (ndV y yr yn),yF a1,yT a2,.v 1,yW ((e:Int)+1),.l 0 84 0,.w 1 74 0 vZ,yN (h1.nx+2),.j 4,.q (.l 0 84 0),.j 5,.q (.l 0 84 0),bS 0 152 [iv ((e:Int)+1),iv (c:Int),.iface 309 (pv 11 0)],.r 1 74 14,.z 1] [3]
theorem zyR(g1_:h1.get h.nx=some (.row 74 zL 0 false))(l1_:h.nx < h1.nx)(hg1:h1.get 1=some zdh)(_h6:6≤h.nx)(_he:e < 100000)(a0:RD n 105 [.string s] (al h.fh 74 zL)=some (.tuple #[ndV y yr yn,iv (e:Int),iv (c:Int)],h1))(a1:((c:Int)==0)=false)(a2:((c:Int)==2)=false):∃ H,Fn n 72 [.string s] h (zpK h1) H∧tw1 h1 h1.wm h.nx (h1.nx+2) H (H.get (h1.nx+1)=some (.row 152 [iv ((e:Int)+1),iv (c:Int),.nilIface] 0 false)):=
 exT (kZ h) [aS 74 zL,yC a0 (kI (ko g1_)),aS 72 z72,.w 1 72 0 (ndV y yr yn),yF a1,yF a2,yW ((e:Int)+1),aS 152 [iv ((e:Int)+1),iv (c:Int),.nilIface],.w 0 74 0 vZ,.r 0 74 14,.z 1] [2]
theorem zqi(hg1:h.get 1=some zdh)(_h6:6≤h.nx)(a0:decide ((s.data.toList.length:Int)>300)=true):∃ H,Fn n 49 [.string s] h zju H∧tl0 h h.fh.wm (h.nx+1) H:=
 exT (kI (ko hg1)) [aS 74 zL,yT a0,.l 0 84 0,.w 1 74 0 vZ,yN (h.nx+1),.j 0,.q (.l 0 84 0),.j 1,.q (.l 0 84 0),.r 1 74 14,.z 1] []
theorem zsT(a0:decide ((s.data.toList.length:Int)>300)=false)(a1:bqS s ⟨#[]⟩=true):∃ H,Fn n 49 [.string s] h (.tuple #[.agg #[iv 0,iv 0,iv 0,.string ⟨#[]⟩,iv 0,iv 0,iv 0,.string ⟨#[]⟩,iv 0,iv 0,iv 0,iv 0,.string ⟨#[]⟩,.slice none 0 0],.nilIface]) H∧tl0 h h.fh.wm (h.nx+1) H:=
 exT (kZ h) [aS 74 zL,yF a0,yT a1,.w 0 74 0 vZ,.r 0 74 14,.z 1] []
theorem zpy(e:Value)(n:Nat)(sk sa sb:Int)(st:BA)(y:Hd)(yr:OA)(yn:Nat)(g1_:h1.get h.nx=some (.row 74 zL 0 false))(l1_:h.nx < h1.nx)(_hl:0 < s.data.toList.length)(_hl2:s.data.toList.length < 4000)(a0:decide ((s.data.toList.length:Int)>300)=false)(a1:bqS s ⟨#[]⟩=false)(a2:(((bAt s 0:Int):Int)==61)=true)(a3:RD n 72 (zdS s) (al h.fh 74 zL)=some (.tuple #[.agg #[iv sk,iv sa,iv sb,.string st,iv y.k,iv y.a,iv y.b,.string y.t,iv y.r0,iv y.c0,iv y.r1,iv y.c1,.string y.nm,.slice yr yn yn],e],h1)):∃ H,Fn n 49 [.string s] h (.tuple #[.agg #[iv sk,iv sa,iv sb,.string st,iv y.k,iv y.a,iv y.b,.string y.t,iv y.r0,iv y.c0,iv y.r1,iv y.c1,.string y.nm,.slice yr yn yn],e]) H∧tl1 h1 h1.wm h.nx h1.nx H:=
 exT (kZ h) [aS 74 zL,yF a0,yF a1,yI 9 s 0,yT a2,cL 9 s 1,yC a3 (kI (ko g1_)),.w 0 74 0 (znu sk sa sb st y yr yn),.r 0 74 14,.z 1] []
theorem zyS(_hl:0 < s.data.toList.length)(_hl2:s.data.toList.length < 4000)(a0:decide ((s.data.toList.length:Int)>300)=false)(a1:bqS s ⟨#[]⟩=false)(a2:(((bAt s 0:Int):Int)==61)=false)(a3:bqS s ⟨#[84,82,85,69]⟩=true):∃ H,Fn n 49 [.string s] h (.tuple #[.agg #[iv 1,iv 1,iv 1,.string ⟨#[]⟩,iv 0,iv 0,iv 0,.string ⟨#[]⟩,iv 0,iv 0,iv 0,iv 0,.string ⟨#[]⟩,.slice none 0 0],.nilIface]) H∧tl0 h h.fh.wm (h.nx+1) H:=
 exT (kZ h) [aS 74 zL,yF a0,yF a1,yI 9 s 0,yF a2,yT a3,.w 0 74 0 ztx,.r 0 74 14,.z 1] []
theorem zyT(_hl:0 < s.data.toList.length)(_hl2:s.data.toList.length < 4000)(a0:decide ((s.data.toList.length:Int)>300)=false)(a1:bqS s ⟨#[]⟩=false)(a2:(((bAt s 0:Int):Int)==61)=false)(a3:bqS s ⟨#[84,82,85,69]⟩=false)(a4:bqS s ⟨#[70,65,76,83,69]⟩=true):∃ H,Fn n 49 [.string s] h (.tuple #[.agg #[iv 1,iv 1,iv 0,.string ⟨#[]⟩,iv 0,iv 0,iv 0,.string ⟨#[]⟩,iv 0,iv 0,iv 0,iv 0,.string ⟨#[]⟩,.slice none 0 0],.nilIface]) H∧tl0 h h.fh.wm (h.nx+1) H:=
 exT (kZ h) [aS 74 zL,yF a0,yF a1,yI 9 s 0,yF a2,yF a3,yT a4,.w 0 74 0 ztw,.r 0 74 14,.z 1] []
theorem zsQ(_hl:0 < s.data.toList.length)(_hl2:s.data.toList.length < 4000)(a0:decide ((s.data.toList.length:Int)>300)=false)(a1:bqS s ⟨#[]⟩=false)(a2:(((bAt s 0:Int):Int)==61)=false)(a3:bqS s ⟨#[84,82,85,69]⟩=false)(a4:bqS s ⟨#[70,65,76,83,69]⟩=false)(a5:Pu n 73 [.string s] (.tuple #[iv a,.bool true]) (al h.fh 74 zL)):∃ H,Fn n 49 [.string s] h (.tuple #[.agg #[iv 1,iv 2,iv a,.string ⟨#[]⟩,iv 0,iv 0,iv 0,.string ⟨#[]⟩,iv 0,iv 0,iv 0,iv 0,.string ⟨#[]⟩,.slice none 0 0],.nilIface]) H∧tl0 h h.fh.wm (h.nx+1) H:=
 exT (kZ h) [aS 74 zL,yF a0,yF a1,yI 9 s 0,yF a2,yF a3,yF a4,yP a5,.w 0 74 0 (ztu a),.r 0 74 14,.z 1] []
theorem zvF(_hl:0 < s.data.toList.length)(_hl2:s.data.toList.length < 4000)(a0:decide ((s.data.toList.length:Int)>300)=false)(a1:bqS s ⟨#[]⟩=false)(a2:(((bAt s 0:Int):Int)==61)=false)(a3:bqS s ⟨#[84,82,85,69]⟩=false)(a4:bqS s ⟨#[70,65,76,83,69]⟩=false)(a5:Pu n 73 [.string s] (zfG a) (al h.fh 74 zL))(a6:(((bAt s 0:Int):Int)==39)=true)(a7:Pu n 74 (zdS s) (zfF t) (al h.fh 74 zL)):∃ H,Fn n 49 [.string s] h (ztv t) H∧tl0 h h.fh.wm (h.nx+2) H:=
 exT (kZ h) [aS 74 zL,yF a0,yF a1,yI 9 s 0,yF a2,yF a3,yF a4,yP a5,yI 9 s 0,yT a6,cL 9 s 1,yP a7,aS 27 zeH,.w 1 27 0 (zfF t),.l 1 3 0,bF,.g 1 27 0 3,.w 0 74 0 (zpL t),.r 0 74 14,.z 1] []
theorem zvE(_hl:0 < s.data.toList.length)(_hl2:s.data.toList.length < 4000)(hg1:h.get 1=some zdh)(_h6:6≤h.nx)(a0:decide ((s.data.toList.length:Int)>300)=false)(a1:bqS s ⟨#[]⟩=false)(a2:(((bAt s 0:Int):Int)==61)=false)(a3:bqS s ⟨#[84,82,85,69]⟩=false)(a4:bqS s ⟨#[70,65,76,83,69]⟩=false)(a5:Pu n 73 [.string s] (zfG a) (al h.fh 74 zL))(a6:(((bAt s 0:Int):Int)==39)=true)(a7:Pu n 74 (zdS s) zfH (al h.fh 74 zL)):∃ H,Fn n 49 [.string s] h zju H∧tl0 h h.fh.wm (h.nx+2) H:=
 exT (kI (ko hg1)) [aS 74 zL,yF a0,yF a1,yI 9 s 0,yF a2,yF a3,yF a4,yP a5,yI 9 s 0,yT a6,cL 9 s 1,yP a7,aS 27 zeH,.w 2 27 0 zfH,.l 2 3 0,bT,.l 0 84 0,.w 1 74 0 vZ,yN (h.nx+2),.j 2,.q (.l 0 84 0),.j 3,.q (.l 0 84 0),.r 1 74 14,.z 1] []
theorem zvH(_hl:0 < s.data.toList.length)(_hl2:s.data.toList.length < 4000)(a0:decide ((s.data.toList.length:Int)>300)=false)(a1:bqS s ⟨#[]⟩=false)(a2:(((bAt s 0:Int):Int)==61)=false)(a3:bqS s ⟨#[84,82,85,69]⟩=false)(a4:bqS s ⟨#[70,65,76,83,69]⟩=false)(a5:Pu n 73 [.string s] (zfG a) (al h.fh 74 zL))(a6:(((bAt s 0:Int):Int)==39)=false)(a7:Pu n 74 [.string s] (zfF t) (al h.fh 74 zL)):∃ H,Fn n 49 [.string s] h (ztv t) H∧tl0 h h.fh.wm (h.nx+2) H:=
 exT (kZ h) [aS 74 zL,yF a0,yF a1,yI 9 s 0,yF a2,yF a3,yF a4,yP a5,yI 9 s 0,yF a6,yP a7,aS 27 zeH,.w 1 27 0 (zfF t),.l 1 3 0,bF,.g 1 27 0 3,.w 0 74 0 (zpL t),.r 0 74 14,.z 1] []
theorem zvG(_hl:0 < s.data.toList.length)(_hl2:s.data.toList.length < 4000)(hg1:h.get 1=some zdh)(_h6:6≤h.nx)(a0:decide ((s.data.toList.length:Int)>300)=false)(a1:bqS s ⟨#[]⟩=false)(a2:(((bAt s 0:Int):Int)==61)=false)(a3:bqS s ⟨#[84,82,85,69]⟩=false)(a4:bqS s ⟨#[70,65,76,83,69]⟩=false)(a5:Pu n 73 [.string s] (zfG a) (al h.fh 74 zL))(a6:(((bAt s 0:Int):Int)==39)=false)(a7:Pu n 74 [.string s] zfH (al h.fh 74 zL)):∃ H,Fn n 49 [.string s] h zju H∧tl0 h h.fh.wm (h.nx+2) H:=
 exT (kI (ko hg1)) [aS 74 zL,yF a0,yF a1,yI 9 s 0,yF a2,yF a3,yF a4,yP a5,yI 9 s 0,yF a6,yP a7,aS 27 zeH,.w 2 27 0 zfH,.l 2 3 0,bT,.l 0 84 0,.w 1 74 0 vZ,yN (h.nx+2),.j 2,.q (.l 0 84 0),.j 3,.q (.l 0 84 0),.r 1 74 14,.z 1] []
theorem zsG(hg1:h.get 1=some zdh)(_h6:6≤h.nx)(a0:Pu n 33 [.nilIface,.iface 150 (pv h.nx 0)] (.bool false) (zdg h))(a1:Pu n 75 [.nilIface,.iface 309 (pv 11 0)] (.bool false) (zdg h)):Fn n 50 [.nilIface] h (.tuple #[iv 0,iv 0]) (zdg h):=
 fnT (kI (ko hg1)) [aS 149 [.pointer none],yP a0,.l 0 84 0,yP a1,.z 0]
theorem zvw(hg1:h.get 1=some zdh)(_h6:6≤h.nx)(a0:Pu n 33 [.iface 309 (pv 11 0),.iface 150 (pv h.nx 0)] (.bool false) (zdg h))(a1:Pu n 75 [.iface 309 (pv 11 0),.iface 309 (pv 11 0)] (.bool true) (zdg h)):Fn n 50 [.iface 309 (pv 11 0)] h (.tuple #[iv 0,iv 2]) (zdg h):=
 fnT (kI (ko hg1)) [aS 149 [.pointer none],yP a0,.l 0 84 0,yP a1,.z 0]
theorem zyz(w:Value)(g1_:h1.get h.nx=some (.row 149 [pv q 0] 0 false))(gh1_q:h1.get q=some (.row 152 [iv (e:Int),iv (c:Int),w] 0 false))(a0:RD n 33 [.iface 149 (pv q 0),.iface 150 (pv h.nx 0)] (zdg h)=some (.bool true,h1)):Fn n 50 [.iface 149 (pv q 0)] h (.tuple #[iv (e:Int),iv (c:Int)]) h1:=
 fnT (kZ h) [aS 149 [.pointer none],yC a0 (kJ (ko g1_) (ko gh1_q)),.l 0 149 0,.l 1 3 0,.l 0 149 0,.l 1 33 1,yN h1.nx,.q (.l 0 149 0),.q (.l 1 3 0),.q (.l 0 149 0),.q (.l 1 33 1),.z 0]
theorem zyO(e:Value)(at_ c n:Nat)(sk sa sb:Int)(st:BA)(y:Hd)(yr:OA)(yn:Nat)(g1_:h1.get h.nx=some (.row 74 zL 0 false))(l1_:h.nx < h1.nx)(a0:RD n 49 [.string s] (al h.fh 74 zL)=some (.tuple #[.agg #[iv sk,iv sa,iv sb,.string st,iv y.k,iv y.a,iv y.b,.string y.t,iv y.r0,iv y.c0,iv y.r1,iv y.c1,.string y.nm,.slice yr yn yn],e],h1))(a1:Pu n 50 [e] (.tuple #[iv (at_:Int),iv (c:Int)]) (pt (al h1 74 zL) h1.nx 74 [iv sk,iv sa,iv sb,.string st,iv y.k,iv y.a,iv y.b,.string y.t,iv y.r0,iv y.c0,iv y.r1,iv y.c1,.string y.nm,.slice yr yn yn])):∃ H,Fn n 29 [.string s] h (.tuple #[.agg #[iv sk,iv sa,iv sb,.string st,iv y.k,iv y.a,iv y.b,.string y.t,iv y.r0,iv y.c0,iv y.r1,iv y.c1,.string y.nm,.slice yr yn yn],iv (at_:Int),iv (c:Int)]) H∧tl1 h1 h1.wm h.nx (h1.nx+1) H:=
 exT (kZ h) [aS 74 zL,yC a0 (kI (ko g1_)),aS 74 zL,.w 1 74 0 (znu sk sa sb st y yr yn),yP a1,.g 1 74 0 14,.w 0 74 0 (znu sk sa sb st y yr yn),.r 0 74 14,.z 1] []
theorem zqm(a0:decide ((s.data.toList.length:Int)>300)=true):∃ H,Fn n 31 [.string s] h zjt H∧tl0 h h.fh.wm (h.nx+1) H:=
 exT (kZ h) [aS 80 zL,yT a0,.w 0 80 0 vZ,.r 0 80 14,.z 1] []
theorem zs7(a0:decide ((s.data.toList.length:Int)>300)=false)(a1:bqS s ⟨#[]⟩=true):∃ H,Fn n 31 [.string s] h (.tuple #[.agg #[iv 0,iv 0,iv 0,.string ⟨#[]⟩,iv 0,iv 0,iv 0,.string ⟨#[]⟩,iv 0,iv 0,iv 0,iv 0,.string ⟨#[]⟩,.slice none 0 0],iv 0,iv 0]) H∧tl0 h h.fh.wm (h.nx+1) H:=
 exT (kZ h) [aS 80 zL,yF a0,yT a1,.w 0 80 0 vZ,.r 0 80 14,.z 1] []
theorem zzb(g1_:h1.get h.nx=some (.row 80 zL 0 false))(l1_:h.nx < h1.nx)(_hl:0 < s.data.toList.length)(_hl2:s.data.toList.length < 4000)(_he:e < 100000)(a0:decide ((s.data.toList.length:Int)>300)=false)(a1:bqS s ⟨#[]⟩=false)(a2:(((bAt s 0:Int):Int)==61)=true)(a3:RD n 52 (zdS s) (al h.fh 80 zL)=some (.tuple #[ndV y yr yn,iv (e:Int),iv (c:Int)],h1))(a4:((c:Int) !=0)=true):∃ H,Fn n 31 [.string s] h (.tuple #[.agg #[iv 0,iv 0,iv 0,.string ⟨#[]⟩,iv 0,iv 0,iv 0,.string ⟨#[]⟩,iv 0,iv 0,iv 0,iv 0,.string ⟨#[]⟩,.slice none 0 0],iv ((e:Int)+1),iv (c:Int)]) H∧tl1 h1 h1.wm h.nx (h1.nx+1) H:=
 exT (kZ h) [aS 80 zL,yF a0,yF a1,yI 9 s 0,yT a2,cL 9 s 1,yC a3 (kI (ko g1_)),aS 72 z72,.w 1 72 0 (ndV y yr yn),yT a4,yW ((e:Int)+1),.w 0 80 0 vZ,.r 0 80 14,.z 1] []
theorem zvS(g1_:h1.get h.nx=some (.row 80 zL 0 false))(l1_:h.nx < h1.nx)(_hl:0 < s.data.toList.length)(_hl2:s.data.toList.length < 4000)(a0:decide ((s.data.toList.length:Int)>300)=false)(a1:bqS s ⟨#[]⟩=false)(a2:(((bAt s 0:Int):Int)==61)=true)(a3:RD n 52 (zdS s) (al h.fh 80 zL)=some (.tuple #[ndV y yr yn,iv (e:Int),iv (c:Int)],h1))(a4:((c:Int) !=0)=false):∃ H,Fn n 31 [.string s] h (.tuple #[.agg #[iv 2,iv 0,iv 0,.string ⟨#[]⟩,iv y.k,iv y.a,iv y.b,.string y.t,iv y.r0,iv y.c0,iv y.r1,iv y.c1,.string y.nm,.slice yr yn yn],iv 0,iv 0]) H∧tl1 h1 h1.wm h.nx (h1.nx+1) H:=
 exT (kZ h) [aS 80 zL,yF a0,yF a1,yI 9 s 0,yT a2,cL 9 s 1,yC a3 (kI (ko g1_)),aS 72 z72,.w 1 72 0 (ndV y yr yn),yF a4,.g 1 72 0 10,.w 0 80 0 (zpJ y yr yn),.r 0 80 14,.z 1] []
theorem zzc(_hl:0 < s.data.toList.length)(_hl2:s.data.toList.length < 4000)(a0:decide ((s.data.toList.length:Int)>300)=false)(a1:bqS s ⟨#[]⟩=false)(a2:(((bAt s 0:Int):Int)==61)=false)(a3:bqS s ⟨#[84,82,85,69]⟩=true)(a4:bqS s ⟨#[84,82,85,69]⟩=true):∃ H,Fn n 31 [.string s] h (.tuple #[.agg #[iv 1,iv 1,iv 1,.string ⟨#[]⟩,iv 0,iv 0,iv 0,.string ⟨#[]⟩,iv 0,iv 0,iv 0,iv 0,.string ⟨#[]⟩,.slice none 0 0],iv 0,iv 0]) H∧tl0 h h.fh.wm (h.nx+2) H:=
 exT (kZ h) [aS 80 zL,yF a0,yF a1,yI 9 s 0,yF a2,yT a3,aS 27 zeH,.w 1 27 0 (.agg #[iv 1,iv 0,.string ⟨#[]⟩]),yT a4,.w 1 2 1 (iv 1),.g 1 27 0 3,.w 0 80 0 ztx,.r 0 80 14,.z 1] []
theorem zzd(_hl:0 < s.data.toList.length)(_hl2:s.data.toList.length < 4000)(a0:decide ((s.data.toList.length:Int)>300)=false)(a1:bqS s ⟨#[]⟩=false)(a2:(((bAt s 0:Int):Int)==61)=false)(a3:bqS s ⟨#[84,82,85,69]⟩=false)(a4:bqS s ⟨#[70,65,76,83,69]⟩=true)(a5:bqS s ⟨#[84,82,85,69]⟩=false):∃ H,Fn n 31 [.string s] h (.tuple #[.agg #[iv 1,iv 1,iv 0,.string ⟨#[]⟩,iv 0,iv 0,iv 0,.string ⟨#[]⟩,iv 0,iv 0,iv 0,iv 0,.string ⟨#[]⟩,.slice none 0 0],iv 0,iv 0]) H∧tl0 h h.fh.wm (h.nx+2) H:=
 exT (kZ h) [aS 80 zL,yF a0,yF a1,yI 9 s 0,yF a2,yF a3,yT a4,aS 27 zeH,.w 1 27 0 (.agg #[iv 1,iv 0,.string ⟨#[]⟩]),yF a5,.g 1 27 0 3,.w 0 80 0 ztw,.r 0 80 14,.z 1] []
theorem zs6(_hl:0 < s.data.toList.length)(_hl2:s.data.toList.length < 4000)(a0:decide ((s.data.toList.length:Int)>300)=false)(a1:bqS s ⟨#[]⟩=false)(a2:(((bAt s 0:Int):Int)==61)=false)(a3:bqS s ⟨#[84,82,85,69]⟩=false)(a4:bqS s ⟨#[70,65,76,83,69]⟩=false)(a5:Pu n 51 [.string s] (.agg #[iv a,.bool true]) (al h.fh 80 zL)):∃ H,Fn n 31 [.string s] h (.tuple #[.agg #[iv 1,iv 2,iv a,.string ⟨#[]⟩,iv 0,iv 0,iv 0,.string ⟨#[]⟩,iv 0,iv 0,iv 0,iv 0,.string ⟨#[]⟩,.slice none 0 0],iv 0,iv 0]) H∧tl0 h h.fh.wm (h.nx+2) H:=
 exT (kZ h) [aS 80 zL,yF a0,yF a1,yI 9 s 0,yF a2,yF a3,yF a4,yP a5,aS 117 [iv 0,.bool false],.w 1 117 0 (.agg #[iv a,.bool true]),.l 1 4 1,.l 1 2 0,.w 0 80 0 (ztu a),.r 0 80 14,.z 1] []
theorem zvR(_hl:0 < s.data.toList.length)(_hl2:s.data.toList.length < 4000)(a0:decide ((s.data.toList.length:Int)>300)=false)(a1:bqS s ⟨#[]⟩=false)(a2:(((bAt s 0:Int):Int)==61)=false)(a3:bqS s ⟨#[84,82,85,69]⟩=false)(a4:bqS s ⟨#[70,65,76,83,69]⟩=false)(a5:Pu n 51 [.string s] (zaJ a) (al h.fh 80 zL))(a6:(((bAt s 0:Int):Int)==39)=true)(a7:decide (((zv s 1 s.data.toList.length).data.toList.length:Int)>200)=true):∃ H,Fn n 31 [.string s] h zjt H∧tl0 h h.fh.wm (h.nx+2) H:=
 exT (kZ h) [aS 80 zL,yF a0,yF a1,yI 9 s 0,yF a2,yF a3,yF a4,yP a5,aS 117 [iv 0,.bool false],.w 1 117 0 (zaJ a),.l 1 4 1,yI 9 s 0,yT a6,cL 9 s 1,yT a7,.w 0 80 0 vZ,.r 0 80 14,.z 1] []
theorem zvQ(_hl:0 < s.data.toList.length)(_hl2:s.data.toList.length < 4000)(a0:decide ((s.data.toList.length:Int)>300)=false)(a1:bqS s ⟨#[]⟩=false)(a2:(((bAt s 0:Int):Int)==61)=false)(a3:bqS s ⟨#[84,82,85,69]⟩=false)(a4:bqS s ⟨#[70,65,76,83,69]⟩=false)(a5:Pu n 51 [.string s] (zaJ a) (al h.fh 80 zL))(a6:(((bAt s 0:Int):Int)==39)=true)(a7:decide (((zv s 1 s.data.toList.length).data.toList.length:Int)>200)=false):∃ H,Fn n 31 [.string s] h (.tuple #[.agg #[iv 1,iv 3,iv 0,.string (zv s 1 s.data.toList.length),iv 0,iv 0,iv 0,.string ⟨#[]⟩,iv 0,iv 0,iv 0,iv 0,.string ⟨#[]⟩,.slice none 0 0],iv 0,iv 0]) H∧tl0 h h.fh.wm (h.nx+2) H:=
 exT (kZ h) [aS 80 zL,yF a0,yF a1,yI 9 s 0,yF a2,yF a3,yF a4,yP a5,aS 117 [iv 0,.bool false],.w 1 117 0 (zaJ a),.l 1 4 1,yI 9 s 0,yT a6,cL 9 s 1,yF a7,.w 0 80 0 (.agg #[iv 1,iv 3,iv 0,.string (zv s 1 s.data.toList.length),iv 0,iv 0,iv 0,.string ⟨#[]⟩,iv 0,iv 0,iv 0,iv 0,.string ⟨#[]⟩,.slice none 0 0]),.r 0 80 14,.z 1] []
theorem zvU(_hl:0 < s.data.toList.length)(_hl2:s.data.toList.length < 4000)(a0:decide ((s.data.toList.length:Int)>300)=false)(a1:bqS s ⟨#[]⟩=false)(a2:(((bAt s 0:Int):Int)==61)=false)(a3:bqS s ⟨#[84,82,85,69]⟩=false)(a4:bqS s ⟨#[70,65,76,83,69]⟩=false)(a5:Pu n 51 [.string s] (zaJ a) (al h.fh 80 zL))(a6:(((bAt s 0:Int):Int)==39)=false)(a7:decide ((s.data.toList.length:Int)>200)=true):∃ H,Fn n 31 [.string s] h zjt H∧tl0 h h.fh.wm (h.nx+2) H:=
 exT (kZ h) [aS 80 zL,yF a0,yF a1,yI 9 s 0,yF a2,yF a3,yF a4,yP a5,aS 117 [iv 0,.bool false],.w 1 117 0 (zaJ a),.l 1 4 1,yI 9 s 0,yF a6,yT a7,.w 0 80 0 vZ,.r 0 80 14,.z 1] []
theorem zvT(_hl:0 < s.data.toList.length)(_hl2:s.data.toList.length < 4000)(a0:decide ((s.data.toList.length:Int)>300)=false)(a1:bqS s ⟨#[]⟩=false)(a2:(((bAt s 0:Int):Int)==61)=false)(a3:bqS s ⟨#[84,82,85,69]⟩=false)(a4:bqS s ⟨#[70,65,76,83,69]⟩=false)(a5:Pu n 51 [.string s] (zaJ a) (al h.fh 80 zL))(a6:(((bAt s 0:Int):Int)==39)=false)(a7:decide ((s.data.toList.length:Int)>200)=false):∃ H,Fn n 31 [.string s] h (.tuple #[.agg #[iv 1,iv 3,iv 0,.string s,iv 0,iv 0,iv 0,.string ⟨#[]⟩,iv 0,iv 0,iv 0,iv 0,.string ⟨#[]⟩,.slice none 0 0],iv 0,iv 0]) H∧tl0 h h.fh.wm (h.nx+2) H:=
 exT (kZ h) [aS 80 zL,yF a0,yF a1,yI 9 s 0,yF a2,yF a3,yF a4,yP a5,aS 117 [iv 0,.bool false],.w 1 117 0 (zaJ a),.l 1 4 1,yI 9 s 0,yF a6,yF a7,.w 0 80 0 (.agg #[iv 1,iv 3,iv 0,.string s,iv 0,iv 0,iv 0,.string ⟨#[]⟩,iv 0,iv 0,iv 0,iv 0,.string ⟨#[]⟩,.slice none 0 0]),.r 0 80 14,.z 1] []
end

theorem zjU{m:Int}{h:Heap}(G:Gl m h):h.get 1=some (.row 84 [.iface 309 (pv 11 0)] 0 true):=by
 rw[G.get 1 (by decide),vJ,if_pos (by decide)]
 rfl
theorem zn8{n q:Nat}{x:Value}(h:n≤q):zM n 5 (.tuple #[x,.iface 149 (pv q 0)])=false:=by
 simp[zM,jH h]
theorem zh0:orcD 75=some zcF:=by kernel_rfl
theorem zuX{m:Int}{h:Heap}(G:Gl m h)(q c:Nat)(y:Value)(hc:h.get c=some (.row 149 [y] 0 false))(n:Nat)(hn:1≤n):
  RD n 33 [.iface 149 (pv q 0),.iface 150 (pv c 0)] h=some (.bool true,pt h c 149 [pv q 0]):=by
 obtain⟨n,rfl⟩:=zs_ n
 obtain⟨t,cs,h0,he⟩:=zop G
 show zB En orcD (drawn En) 18446744073709551616 (n+1) 33 _ h=_
 simp only[zB,zcE,zaL,h0,he,cond_true,Nat.beq_refl,jd,hc,uG]
 rfl
theorem zxR{m:Int}{h:Heap}(G:Gl m h)(c:Nat)(y:Value)(hc:h.get c=some (.row 149 [y] 0 false))(n:Nat)(hn:1≤n):
  RD n 33 [.iface 309 (pv 11 0),.iface 150 (pv c 0)] h=some (.bool false,h):=by
 obtain⟨n,rfl⟩:=zs_ n
 obtain⟨t,cs,h0,he⟩:=zop G
 show zB En orcD (drawn En) 18446744073709551616 (n+1) 33 _ h=_
 simp only[zB,zcE,zaL,h0,he,cond_true,hc]
 rfl
theorem zjR(h:Heap)(n:Nat)(hn:1≤n):RD n 75 [.nilIface,.iface 309 (pv 11 0)] h=some (.bool false,h):=by
 obtain⟨n,rfl⟩:=zs_ n
 show zB En orcD (drawn En) 18446744073709551616 (n+1) 75 _ h=_
 simp only[zB,zh0,zcF]
theorem zhy(h:Heap)(n:Nat)(hn:1≤n):RD n 75 [.iface 309 (pv 11 0),.iface 309 (pv 11 0)] h=some (.bool true,h):=by
 obtain⟨n,rfl⟩:=zs_ n
 show zB En orcD (drawn En) 18446744073709551616 (n+1) 75 _ h=_
 simp only[zB,zh0,zcF]
 rfl
def srV(k a b:Int)(t:BA)(y:Hd)(r:OA)(l:Nat):Value:=.agg #[iv k,iv a,iv b,.string t,iv y.k,iv y.a,iv y.b,.string y.t,iv y.r0,iv y.c0,iv y.r1,iv y.c1,.string y.nm,.slice r l l]
def zxY(v:Value):Prop:=∃ k a b t y r l,v=srV k a b t y r l
def zko(h:Heap)(lo:Nat)(e:Value)(at_ c:Nat):Prop:=
 (c=0∧at_=0∧e= .nilIface)∨(c=2∧at_=0∧e= .iface 309 (pv 11 0))∨(∃ q w,e= .iface 149 (pv q 0)∧lo≤q∧h.get q=some (.row 152 [iv (at_:Int),iv (c:Int),w] 0 false))
theorem yx{h h1 H:Heap}{lo:Nat}(K:Kp h.fh h1)(g:∀ c,c < h1.nx→c≠lo→H.get c=h1.get c)(hlo:h.nx≤lo)(nx:h1.nx≤H.nx)(wm:H.wm≤h.nx):Kp h.fh H:=
 ⟨nT K.nx nx,fun c hc=>by
  have hc':c < h.nx:=hc
  exact(g c (nU hc K.nx) (by omega)).trans (K.get c hc),wm⟩
theorem zaN{m:Int}{h:Heap}(G:Gl m h){a:Int}(h1: -9223372036854775808≤a)(h2:a≤9223372036854775807)(n:Nat)(hn:2≤n):RD n 45 [iv a] h=some (.string ⟨⟨Lib.itoa a⟩⟩,h):=by
 obtain⟨n,rfl⟩:∃ m,n=m+1+1:=⟨n - 2,by omega⟩
 have e70:RD (n+1) 70 [iv a,iv 10] h.fh=some (.string ⟨⟨Lib.itoa a⟩⟩,h.fh):=by
  show zB En orcD (drawn En) 18446744073709551616 (n+1) 70 _ h.fh=_
  simp only[zB,zqK,zdV]
  exact zio G.fh h1 h2
 exact zH (zAk h _ a (n+1) e70) rfl
abbrev Z14:Vs:=[iv 0,iv 0,iv 0,.string ⟨#[]⟩,iv 0,iv 0,iv 0,.string ⟨#[]⟩,iv 0,iv 0,iv 0,iv 0,.string ⟨#[]⟩,.slice none 0 0]
theorem jM{h H:Heap}{k:Nat}(g:∀ c,c < h.nx→H.get c=h.get c)(nx:H.nx=h.nx+k)(wm:H.wm≤h.fh.wm):Kp h.fh H:=⟨by show h.nx≤H.nx;omega,g,wm⟩
theorem zbH(b:UInt8)(t:Bsy):zv ⟨⟨b::t⟩⟩ 1 ((⟨⟨b::t⟩⟩:BA).data.toList.length:Nat)=⟨⟨t⟩⟩:=zhg (b::t) 1
theorem zmV{m:Int}{h:Heap}{lo at_ c:Nat}{e:Value}(G:Gl m h)(EA:zko h lo e at_ c)(n:Nat)(hn:2≤n):RD n 50 [e] h=some (.tuple #[iv (at_:Int),iv (c:Int)],h):=by
 obtain⟨n,rfl⟩:=zs_ n
 have g0:(al h.fh 149 [.pointer none]).get h.nx=some (.row 149 [.pointer none] 0 false):=gN (h:=h.fh)
 have GA:Gl m (al h.fh 149 [.pointer none]):=G.fh.alloc _
 rcases EA with⟨rfl,rfl,rfl⟩|⟨rfl,rfl,rfl⟩|⟨q,w,rfl,hq,gq⟩
 ·rw[zsG h n (zjU G) (by have:=G.nx;omega) (as_nil _ _ n (by omega)) (zjR _ n (by omega)),zk (nL_ _) rfl];rfl
 ·rw[zvw h n (zjU G) (by have:=G.nx;omega) (zxR GA h.nx _ g0 n (by omega)) (zhy _ n (by omega)),zk (nL_ _) rfl];rfl
 ·have hqn:=za gq
  have ea:=zuX GA q h.nx _ g0 n (by omega)
  have hl:h.nx < (al h.fh 149 [.pointer none]).nx:=nS _
  rw[zyz h _ q at_ c n w (gP hl) (gO (gA (h:=h.fh) gq) hl (by omega)) ea,zk (by rw[ze];show h.nx≤min h.nx h.nx;omega) rfl]
theorem ztF:orcD 6=some zeM:=by
 unfold orcD
 rfl
abbrev Z8:Vs:=[iv 0,iv 0,iv 0,iv 0,iv 0,iv 0,iv 0,.string ⟨#[]⟩]
abbrev LbL(n:Nat):=Loops En (RD n) 59 18446744073709551616 (sub [1,1,0,0,0] (zp Tryz.f14))
theorem zgC{m:Int}{h:Heap}(G:Gl m h)(n:Nat)(hn:1≤n):RD n 6 [] h=some (.bool true,h):=by
 obtain⟨n,rfl⟩:=zs_ n
 show zB En orcD (drawn En) 18446744073709551616 (n+1) 6 _ h=_
 simp only[zB,ztF]
 exact zqN G
def wq:List (Bsy):=[[61],[60,62],[60],[60,61],[62],[62,61],[43],[45],[38],[42],[47],[37],[94]]
def uP(b:UInt8):Bool:=(decide (65≤b.toNat) && decide (b.toNat≤90)) || (decide (48≤b.toNat) && decide (b.toNat≤57))
def zdI(l:Bsy):Prop:=l.length≤8∧∃ c r,l=c::r∧65≤c.toNat∧c.toNat≤90∧r.all uP=true
inductive GT:Tr→Prop
 |int (n:Nat) (h:n≤9223372036854775807):GT (.node (zz 2 n []) [])
 |text (s:Bsy) (h:s.length≤200):GT (.node (zz 3 0 s) [])
 |bool (b:Nat) (h:b≤1):GT (.node (zz 1 b []) [])
 |cell (r c:Nat) (h:inG r c):GT (.node (zF 2 r c 0 0) [])
 |range (r c r' c':Nat) (h:inG r c) (h':inG r' c') (hr:r≤r') (hc:c≤c'):GT (.node (zF 3 r c r' c') [])
 |neg (t:Tr) (h:GT t):GT (.node (zg 4 []) [t])
 |two (s:Bsy) (x y:Tr) (hs:s∈wq) (h:GT x) (h':GT y):GT (vM s x y)
 |call (nm:Bsy) (l:List Tr) (hw:zdI nm) (hl:l.length≤10) (h:∀ t∈l,GT t):GT (.node (zg 6 nm) l)
structure TG(x:Tk):Prop where
 num:x.k=1→x.n≤9223372036854775807
 nam:x.k=3→∃ c r,x.t=c::r∧65≤c.toNat∧c.toNat≤90∧r.all uP=true
theorem zhH:((List.range 256).all fun n=>(!(kdV (zA (n:Int))==3) || (decide (65≤(upB (UInt8.ofNat n)).toNat) && decide ((upB (UInt8.ofNat n)).toNat≤90))) && (!(kdV (zA (n:Int))==2) || uP (upB (UInt8.ofNat n))))=true:=by kernel_rfl
theorem zb6(b:UInt8):UInt8.ofNat b.toNat=b:=by apply UInt8.toNat_inj.1;simp
theorem zbY{b:UInt8}(h:kd b=3):65≤(upB b).toNat∧(upB b).toNat≤90:=by
 have e:=ve zhH b.toNat (vu b)
 rw[zb6,bA] at e
 have e1:=e.1
 unfold kd at h
 rw[h] at e1
 simpa using e1
theorem zmF{b:UInt8}(h:kd b=2):uP (upB b)=true:=by
 have e:=ve zhH b.toNat (vu b)
 rw[zb6,bA] at e
 have e1:=e.2
 unfold kd at h
 rw[h] at e1
 simpa using e1
theorem up_word{b:UInt8}(h:isW b=true):uP (upB b)=true:=by
 unfold isW at h
 rw[Bool.or_eq_true] at h
 rcases h with h|h
 ·have:=zbY (b:=b) (by simpa using h)
  unfold uP;simp[this]
 ·exact zmF (by simpa using h)
theorem zkG(c:UInt8)(r:Bsy)(at_:Nat):TG (qU (c::r) at_):=by
 unfold qU
 constructor
 ·simp only
  unfold zD
  simp only
  split
  ·unfold uL
   split
   ·rename_i v hv
    split at hv
    ·simp only[sJ] at hv
     intro _;show v≤_;omega
    ·cases hv
   ·intro h;cases h
  ·split
   ·split
    ·intro h;cases h
    ·intro h;cases h
   ·split
    ·intro h;cases h
    ·split
     ·intro h;cases h
     ·intro h;cases h
 ·simp only
  unfold zD
  simp only
  split
  ·split
   ·intro h;cases h
   ·intro h;cases h
  ·split
   ·split
    ·intro h;cases h
    ·intro h;cases h
   ·split
    ·rename_i h3
     intro _
     have hw:isW c=true:=by unfold isW;simp[h3]
     rw[List.takeWhile_cons,if_pos hw,List.map_cons]
     refine⟨_,_,rfl,(zbY h3).1,(zbY h3).2,?_⟩
     rw[List.all_map,List.all_eq_true]
     intro b hb
     exact up_word (List.all_eq_true.1 List.all_takeWhile b hb)
    ·split
     ·intro h;cases h
     ·intro h;cases h
theorem zlG:∀ (N:Nat) (l:Bsy) (at_:Nat) (acc ts:List Tk),(∀ x∈acc,TG x)→jq N l at_ acc= .ok ts→∀ x∈ts,TG x:=by
 intro N
 induction N with
 |zero=>intro l at_ acc ts ha h;simp only[jq,LexR.ok.injEq] at h;subst h;exact ha
 |succ N ih=>
  intro l at_ acc ts ha h
  cases l with
  |nil=>simp only[jq,LexR.ok.injEq] at h;subst h;exact ha
  |cons c r=>
   simp only[jq] at h
   split at h
   ·exact ih _ _ _ _ ha h
   ·split at h
    ·cases h
    ·refine ih _ _ _ _ (fun x hx=>?_) h
     rcases List.mem_append.1 hx with hx|hx
     ·exact ha x hx
     ·rw[List.mem_singleton] at hx
      subst hx
      exact zkG c r at_
section
variable (ts:List Tk) (E:Nat) (A:Bsy→Option (Nat×Nat))
def GF(f:PR):Prop:=∀ k t k',f k= .ok t k'→GT t
theorem zqp{ops:List (Bsy)}(ho:∀ s∈ops,s∈wq){f:PR}(hf:GF f):∀ (i:Nat) (x:Tr) (k:Nat) (t:Tr) (k':Nat),GT x→qv ts ops f i x k= .ok t k'→GT t:=by
 intro i
 induction i with
 |zero=>intro x k t k' hx h;simp only[qv,Res.ok.injEq] at h;obtain⟨rfl,rfl⟩:=h;exact hx
 |succ i ih=>
  intro x k t k' hx h
  simp only[qv] at h
  split at h
  ·simp only[Res.ok.injEq] at h;obtain⟨rfl,rfl⟩:=h;exact hx
  next s es=>
   split at h
   ·cases h
   next y k1 e=>exact ih _ _ _ _ (.two _ _ _ (ho _ ((zdO es).1)) hx (hf _ _ _ e)) h
theorem zhR{ops:List (Bsy)}(ho:∀ s∈ops,s∈wq){f:PR}(hf:GF f):GF (qM ts ops f):=by
 intro k t k' h
 simp only[qM] at h
 split at h
 ·cases h
 next x k1 e=>exact zqp ts ho hf _ _ _ _ _ (hf _ _ _ e) h
theorem zox{f:PR}(hf:GF f):GF (vr ts f):=by
 intro k t k' h
 simp only[vr] at h
 split at h
 ·cases h
 next x k1 e=>
  split at h
  ·simp only[Res.ok.injEq] at h;obtain⟨rfl,rfl⟩:=h;exact hf _ _ _ e
  next s es=>
   split at h
   ·cases h
   next y k2 e2=>
    simp only[Res.ok.injEq] at h;obtain⟨rfl,rfl⟩:=h
    exact .two _ _ _ (by
     have:=(zdO es).1
     simp only[List.mem_cons,List.not_mem_nil,or_false] at this
     unfold wq
     rcases this with rfl|rfl|rfl|rfl|rfl|rfl <;>simp) (hf _ _ _ e) (hf _ _ _ e2)
theorem zqF{f g:PR}(hf:GF f)(hg:GF g):GF (ub ts f g):=by
 intro k t k' h
 simp only[ub] at h
 split at h
 ·cases h
 next x k1 e=>
  split at h
  ·simp only[Res.ok.injEq] at h;obtain⟨rfl,rfl⟩:=h;exact hf _ _ _ e
  next s es=>
   split at h
   ·cases h
   next y k2 e2=>
    simp only[Res.ok.injEq] at h;obtain⟨rfl,rfl⟩:=h
    exact .two _ _ _ (by
     have:=(zdO es).1
     simp only[List.mem_cons,List.not_mem_nil,or_false] at this
     subst this;unfold wq;simp) (hf _ _ _ e) (hg _ _ _ e2)
theorem zsB{f g:PR}(hf:GF f)(hg:GF g):GF (unP ts f g):=by
 intro k t k' h
 simp only[unP] at h
 split at h
 ·exact hf _ _ _ h
 ·split at h
  ·cases h
  next y k2 e2=>
   simp only[Res.ok.injEq] at h;obtain⟨rfl,rfl⟩:=h
   exact .neg _ (hg _ _ _ e2)
theorem zpf{f:PR}(hf:GF f){nm:Bsy}(hw:zdI nm):∀ (i:Nat) (acc:List Tr) (k:Nat) (t:Tr) (k':Nat),acc.length+i≤10→(∀ x∈acc,GT x)→jQ ts E f nm i acc k= .ok t k'→GT t:=by
 intro i
 induction i with
 |zero=>intro acc k t k' _ _ h;simp only[jQ,jO] at h;cases h
 |succ i ih=>
  intro acc k t k' hl ha h
  simp only[jQ] at h
  split at h
  ·cases h
  next y k1 e=>
   have hy:=hf _ _ _ e
   have ha2:∀ x∈acc++[y],GT x:=fun x hx=>by
    rcases List.mem_append.1 hx with hx|hx
    ·exact ha x hx
    ·rw[List.mem_singleton] at hx;subst hx;exact hy
   have hl2:(acc++[y]).length=acc.length+1:=by rw[lA];rfl
   split at h
   ·exact ih _ _ _ _ (by rw[hl2];omega) ha2 h
   ·split at h
    ·simp only[Res.ok.injEq] at h;obtain⟨rfl,rfl⟩:=h
     exact .call _ _ hw (by rw[hl2];omega) ha2
    ·cases h
theorem znZ(hA:∀ l r c,A l=some (r,c)→inG r c){f:PR}(hf:GF f){x:Tk}(hx:TG x)(h3:x.k=3):GF (qS ts E A f x):=by
 intro k t k' h
 simp only[qS] at h
 split at h
 ·simp only[yf] at h
  split at h
  ·cases h
  next h8=>
   have hw:zdI x.t:=⟨by omega,hx.nam h3⟩
   split at h
   ·simp only[Res.ok.injEq] at h;obtain⟨rfl,rfl⟩:=h
    exact .call _ _ hw (by simp) (by simp)
   ·exact zpf ts E hf hw _ _ _ _ _ (by simp) (by simp) h
 ·split at h
  ·simp only[Res.ok.injEq] at h;obtain⟨rfl,rfl⟩:=h;exact .bool 1 (by omega)
  ·split at h
   ·simp only[Res.ok.injEq] at h;obtain⟨rfl,rfl⟩:=h;exact .bool 0 (by omega)
   ·split at h
    ·cases h
    next r c ea=>
     have g1:=hA _ _ _ ea
     split at h
     ·simp only[Res.ok.injEq] at h;obtain⟨rfl,rfl⟩:=h;exact .cell _ _ g1
     ·split at h
      ·cases h
      next r' c' ec=>
       have g2:inG r' c':=by
        unfold jP at ec
        split at ec
        ·split at ec
         ·exact hA _ _ _ ec
         ·cases ec
        ·cases ec
       simp only[Res.ok.injEq] at h;obtain⟨rfl,rfl⟩:=h
       unfold inG at g1 g2
       exact .range _ _ _ _ (by unfold inG;omega) (by unfold inG;omega) (by omega) (by omega)
theorem znz(hA:∀ l r c,A l=some (r,c)→inG r c)(hT:∀ x∈ts,TG x){f:PR}(hf:GF f):GF (qz ts E A f):=by
 intro k t k' h
 simp only[qz] at h
 split at h
 ·cases h
 next x ex=>
  have hx:=hT x (List.mem_of_getElem? ex)
  split at h
  next h1=>simp only[Res.ok.injEq] at h;obtain⟨rfl,rfl⟩:=h;exact .int _ (hx.num h1)
  next=>
   split at h
   ·split at h
    next h2=>simp only[Res.ok.injEq] at h;obtain⟨rfl,rfl⟩:=h;exact .text _ h2
    next=>cases h
   ·split at h
    next h3=>exact znZ ts E A hA hf hx h3 _ _ _ h
    next=>
     split at h
     ·split at h
      ·split at h
       ·cases h
       next y k1 e=>
        split at h
        ·simp only[Res.ok.injEq] at h;obtain⟨rfl,rfl⟩:=h;exact hf _ _ _ e
        ·cases h
      ·cases h
     ·cases h
theorem zwW(hA:∀ l r c,A l=some (r,c)→inG r c)(hT:∀ x∈ts,TG x):∀ d,GF (lv ts E A d).form∧GF (lv ts E A d).pow∧GF (lv ts E A d).un:=by
 intro d
 induction d with
 |zero=>exact⟨fun _ _ _ h=>(nomatch h),fun _ _ _ h=>(nomatch h),fun _ _ _ h=>(nomatch h)⟩
 |succ d ih=>
  have hu:=zsB ts (znz ts E A hA hT ih.1) ih.2.2
  have hp:=zqF ts hu ih.2.1
  refine⟨zox ts (zhR ts ?_ (zhR ts ?_ hp)),hp,hu⟩
  ·intro s hs;simp only[zaU,List.mem_cons,List.not_mem_nil,or_false] at hs;unfold wq;rcases hs with rfl|rfl|rfl <;>simp
  ·intro s hs;simp only[yb,List.mem_cons,List.not_mem_nil,or_false] at hs;unfold wq;rcases hs with rfl|rfl|rfl <;>simp
end
theorem zuZ(l:Bsy)(r c:Nat)(h:adr l=some (r,c)):inG r c:=(uU.1 h).1
theorem zlm{s:Bsy}{t:Tr}{k:Nat}(h:jo adr s= .ok t k):GT t∧t.depth≤16∧t.size≤300:=by
 unfold jo at h
 split at h
 ·cases h
 next h3=>
  split at h
  ·cases h
  next ts el=>
   split at h
   ·cases h
   next t2 k2 e=>
    split at h
    ·cases h
    ·split at h
     ·cases h
     next hd=>
      simp only[Res.ok.injEq] at h;obtain⟨rfl,rfl⟩:=h
      have hT:=zlG _ _ _ _ _ (by simp) el
      have hl:=zdm _ _ _ _ _ el
      have h1:=(zwW ts s.length adr zuZ hT 41).1 _ _ _ e
      have h2:=(zgR ts s.length adr 41).1 _ _ _ e
      have h4:=(za6 ts s.length adr 41).1 _ _ _ e
      simp only[lN] at hl
      exact⟨h1,by omega,by omega⟩
theorem zx1(h h1 h2:Heap)(B q k:Nat)(s:BA)(sl:Value)(n:Nat)(hB:h1.get B=some (.row 228 [pv B 0,sl] 0 false))(hB2:h2.get B=some (.row 228 [pv B 0,sl] 0 false))(a0:RD n 190 [pv B 0] h.fh=some (.tuple #[],h1))(a1:zu En h1 #[108,9] sl (.string s)=some (sv q 0 k k,h2)):Fn n 163 [pv B 0,.string s] h (.tuple #[iv s.data.toList.length,.nilIface]) (pt h2 B 228 [pv B 0,sv q 0 k k]):=
 fnT (kZ h) [yC a0 (kI (ko hB)),.l 0 108 1,yC a1 (kI (ko hB2)),.w 0 108 1 (sv q 0 k k),.z 0]
theorem zyc(h:Heap)(B q k:Nat)(n:Nat)(hB:h.get B=some (.row 228 [pv B 0,sv q 0 k k] 0 false)):Fn n 131 [pv B 0] h (iv k) h.fh:=
 fnV (kI (ko hB)) [.l 0 108 1,.z 0]
end Go.PanE
