/-
 Part 43 of the proof of Rows.DumpReadsCardSaid: Sources and lines: paths printed by sx.py (m28.py).
 Lines: paths printed by sx.py (m28.py).
 Sources: the laws of both readers.
 No conditions.
-/
import Derived.Test.YtihkphfmnnndfaaGreatDoorT33
import Derived.Test.YtihkphfmnnndfaaGreatDoorT42
namespace Go.PanE
open Go.Proofs
noncomputable section
abbrev q1_1:List Value:=[iv 0,iv 0,iv 0,.string ⟨#[]⟩,iv 0,iv 0,iv 0,.string ⟨#[]⟩,iv 0,iv 0,iv 0,iv 0,.string ⟨#[]⟩,.slice none 0 0]
abbrev q1_2:AObj:=.row 84 [.iface 309 (pv 11 0)] 0 true
abbrev q1_3:Value:=.agg #[iv 1,iv 1,iv 1,.string ⟨#[]⟩,iv 0,iv 0,iv 0,.string ⟨#[]⟩,iv 0,iv 0,iv 0,iv 0,.string ⟨#[]⟩,.slice none 0 0]
abbrev q1_4:Value:=.agg #[iv 1,iv 1,iv 0,.string ⟨#[]⟩,iv 0,iv 0,iv 0,.string ⟨#[]⟩,iv 0,iv 0,iv 0,iv 0,.string ⟨#[]⟩,.slice none 0 0]
abbrev q1_5(sk sa sb:Int)(st:ByteArray)(y:Hd)(yr:Option Addr)(yn:Nat):Value:=.agg #[iv sk,iv sa,iv sb,.string st,iv y.k,iv y.a,iv y.b,.string y.t,iv y.r0,iv y.c0,iv y.r1,iv y.c1,.string y.nm,.slice yr yn yn]
abbrev q1_6:List Value:=[iv 0,iv 0,.string ⟨#[]⟩]
abbrev q1_7(t:ByteArray):Value:=.tuple #[.agg #[iv 1,iv 3,iv 0,.string t,iv 0,iv 0,iv 0,.string ⟨#[]⟩,iv 0,iv 0,iv 0,iv 0,.string ⟨#[]⟩,.slice none 0 0],.nilIface]
abbrev q1_8(h:Heap):Heap:=al h.fresh 149 [.pointer none]
abbrev q1_9(a:Int):Value:=.agg #[iv 1,iv 2,iv a,.string ⟨#[]⟩,iv 0,iv 0,iv 0,.string ⟨#[]⟩,iv 0,iv 0,iv 0,iv 0,.string ⟨#[]⟩,.slice none 0 0]
abbrev q1_10(a:Int):Value:=.agg #[iv a,.bool false]
abbrev q1_11(t:ByteArray):Value:=.agg #[iv 1,iv 3,iv 0,.string t,iv 0,iv 0,iv 0,.string ⟨#[]⟩,iv 0,iv 0,iv 0,iv 0,.string ⟨#[]⟩,.slice none 0 0]
abbrev q1_12(s:ByteArray):List Value:=[.string (cutS s 1 s.data.toList.length)]
abbrev q1_13:Value:=.agg #[iv 0,iv 0,iv 0,.string ⟨#[]⟩,iv 0,iv 0,iv 0,.string ⟨#[]⟩,iv 0,iv 0,iv 0,iv 0,.string ⟨#[]⟩,.slice none 0 0]
abbrev q1_14:Value:=.tuple #[.agg #[iv 0,iv 0,iv 0,.string ⟨#[]⟩,iv 0,iv 0,iv 0,.string ⟨#[]⟩,iv 0,iv 0,iv 0,iv 0,.string ⟨#[]⟩,.slice none 0 0],.iface 309 (pv 11 0)]
abbrev q1_15:Value:=.tuple #[.agg #[iv 0,iv 0,iv 0,.string ⟨#[]⟩,iv 0,iv 0,iv 0,.string ⟨#[]⟩,iv 0,iv 0,iv 0,iv 0,.string ⟨#[]⟩,.slice none 0 0],iv 0,iv 2]
abbrev q1_16(h1:Heap):Value:=.tuple #[.agg #[iv 0,iv 0,iv 0,.string ⟨#[]⟩,iv 0,iv 0,iv 0,.string ⟨#[]⟩,iv 0,iv 0,iv 0,iv 0,.string ⟨#[]⟩,.slice none 0 0],.iface 149 (pv (h1.nx+1) 0)]
abbrev q1_17:Value:=.agg #[iv 4,iv 7,.string ⟨#[]⟩]
abbrev q1_18(y:Hd)(yr:Option Addr)(yn:Nat):Value:=.agg #[iv 2,iv 0,iv 0,.string ⟨#[]⟩,iv y.k,iv y.a,iv y.b,.string y.t,iv y.r0,iv y.c0,iv y.r1,iv y.c1,.string y.nm,.slice yr yn yn]
abbrev q1_19(a:Int):Value:=.tuple #[iv a,.bool false]
abbrev q1_20(t:ByteArray):Value:=.agg #[iv 3,iv 0,.string t]
theorem nu_err(h h1:Heap)(s:ByteArray)(a:Int)(q n:Nat)(a0:RD n 106 [.string s,iv 10,iv 64] h.fresh=some (.tuple #[iv a,.iface 279 (pv q 0)],h1)):Fn n 73 [.string s] h (.tuple #[iv 0,.bool false]) h1:=
 fnT (kZ h) [yC a0 (kZ h1),bT,.z 0]
theorem nu_ne(h:Heap)(s d:ByteArray)(a:Int)(n:Nat)(a0:Pu n 106 [.string s,iv 10,iv 64] (.tuple #[iv a,.nilIface]) h.fresh)(a1:Pu n 45 [iv a] (.string d) h.fresh)(a2:(!bqS d s)=true):Fn n 73 [.string s] h (.tuple #[iv 0,.bool false]) h.fresh:=
 fnT (kZ h) [yP a0,bF,yP a1,yT a2,.z 0]
theorem nu_ok(h:Heap)(s d:ByteArray)(a:Int)(n:Nat)(a0:Pu n 106 [.string s,iv 10,iv 64] (.tuple #[iv a,.nilIface]) h.fresh)(a1:Pu n 45 [iv a] (.string d) h.fresh)(a2:(!bqS d s)=false):Fn n 73 [.string s] h (.tuple #[iv a,.bool true]) h.fresh:=
 fnT (kZ h) [yP a0,bF,yP a1,yF a2,.z 0]
theorem nd_p(h:Heap)(d:ByteArray)(a:Int)(n:Nat)(a0:Pu n 70 [iv a,iv 10] (.string d) h.fresh):Fn n 45 [iv a] h (.string d) h.fresh:=
 fnV (kZ h) [yP a0,.z 0]
theorem sp_ok(h h1:Heap)(s:ByteArray)(e c n:Nat)(y:Hd)(yr:Option Addr)(yn:Nat)(gh1_hnx:h1.get h.nx=some (.row 74 q1_1 0 false))(_lhnxh1:h.nx < h1.nx)(a0:RD n 105 [.string s] (al h.fresh 74 q1_1)=some (.tuple #[ndV y yr yn,iv (e:Int),iv (c:Int)],h1))(a1:(((c:Int):Int)==0)=true):∃ H,Fn n 72 [.string s] h (.tuple #[.agg #[iv 2,iv 0,iv 0,.string ⟨#[]⟩,iv y.k,iv y.a,iv y.b,.string y.t,iv y.r0,iv y.c0,iv y.r1,iv y.c1,.string y.nm,.slice yr yn yn],.nilIface]) H∧tl1 h1 h1.wm h.nx (h1.nx+1) H:=
 exT (kZ h) [aS 74 q1_1,yC a0 (kI (ko gh1_hnx)),aS 72 z72,.w 1 72 0 (ndV y yr yn),yT a1,.g 1 72 0 10,.w 0 74 0 (q1_18 y yr yn),.r 0 74 14,.z 1] []
theorem sp_lg(h h1:Heap)(s:ByteArray)(e c n:Nat)(y:Hd)(yr:Option Addr)(yn:Nat)(gh1_hnx:h1.get h.nx=some (.row 74 q1_1 0 false))(_lhnxh1:h.nx < h1.nx)(hg1:h1.get 1=some q1_2)(_h6:6≤h.nx)(_he:e < 100000)(a0:RD n 105 [.string s] (al h.fresh 74 q1_1)=some (.tuple #[ndV y yr yn,iv (e:Int),iv (c:Int)],h1))(a1:(((c:Int):Int)==0)=false)(a2:(((c:Int):Int)==2)=true):∃ H,Fn n 72 [.string s] h (q1_16 h1) H∧tw1 h1 h1.wm h.nx (h1.nx+2) H (H.get (h1.nx+1)=some (.row 152 [iv ((e:Int)+1),iv (c:Int),.iface 309 (pv 11 0)] 0 false)):=
 exT (kZ h) [aS 74 q1_1,yC a0 (kJ (ko hg1) (ko gh1_hnx)),aS 72 z72,.w 2 72 0 (ndV y yr yn),yF a1,yT a2,.v 1,yW ((e:Int)+1),.l 0 84 0,.w 1 74 0 q1_13,yN (h1.nx+2),.j 4,.q (.l 0 84 0),.j 5,.q (.l 0 84 0),bS 0 152 [iv ((e:Int)+1),iv (c:Int),.iface 309 (pv 11 0)],.r 1 74 14,.z 1] [3]
theorem sp_e(h h1:Heap)(s:ByteArray)(e c n:Nat)(y:Hd)(yr:Option Addr)(yn:Nat)(gh1_hnx:h1.get h.nx=some (.row 74 q1_1 0 false))(_lhnxh1:h.nx < h1.nx)(hg1:h1.get 1=some q1_2)(_h6:6≤h.nx)(_he:e < 100000)(a0:RD n 105 [.string s] (al h.fresh 74 q1_1)=some (.tuple #[ndV y yr yn,iv (e:Int),iv (c:Int)],h1))(a1:(((c:Int):Int)==0)=false)(a2:(((c:Int):Int)==2)=false):∃ H,Fn n 72 [.string s] h (q1_16 h1) H∧tw1 h1 h1.wm h.nx (h1.nx+2) H (H.get (h1.nx+1)=some (.row 152 [iv ((e:Int)+1),iv (c:Int),.nilIface] 0 false)):=
 exT (kZ h) [aS 74 q1_1,yC a0 (kI (ko gh1_hnx)),aS 72 z72,.w 1 72 0 (ndV y yr yn),yF a1,yF a2,yW ((e:Int)+1),aS 152 [iv ((e:Int)+1),iv (c:Int),.nilIface],.w 0 74 0 q1_13,.r 0 74 14,.z 1] [2]
theorem so_long(h:Heap)(s:ByteArray)(n:Nat)(hg1:h.get 1=some q1_2)(_h6:6≤h.nx)(a0:decide ((s.data.toList.length:Int)>300)=true):∃ H,Fn n 49 [.string s] h q1_14 H∧tl0 h h.fresh.wm (h.nx+1) H:=
 exT (kI (ko hg1)) [aS 74 q1_1,yT a0,.l 0 84 0,.w 1 74 0 q1_13,yN (h.nx+1),.j 0,.q (.l 0 84 0),.j 1,.q (.l 0 84 0),.r 1 74 14,.z 1] []
theorem so_emp(h:Heap)(s:ByteArray)(n:Nat)(a0:decide ((s.data.toList.length:Int)>300)=false)(a1:bqS s ⟨#[]⟩=true):∃ H,Fn n 49 [.string s] h (.tuple #[.agg #[iv 0,iv 0,iv 0,.string ⟨#[]⟩,iv 0,iv 0,iv 0,.string ⟨#[]⟩,iv 0,iv 0,iv 0,iv 0,.string ⟨#[]⟩,.slice none 0 0],.nilIface]) H∧tl0 h h.fresh.wm (h.nx+1) H:=
 exT (kZ h) [aS 74 q1_1,yF a0,yT a1,.w 0 74 0 q1_13,.r 0 74 14,.z 1] []
theorem so_eq(h h1:Heap)(s:ByteArray)(e:Value)(n:Nat)(sk sa sb:Int)(st:ByteArray)(y:Hd)(yr:Option Addr)(yn:Nat)(gh1_hnx:h1.get h.nx=some (.row 74 q1_1 0 false))(_lhnxh1:h.nx < h1.nx)(_hl:0 < s.data.toList.length)(_hl2:s.data.toList.length < 4000)(a0:decide ((s.data.toList.length:Int)>300)=false)(a1:bqS s ⟨#[]⟩=false)(a2:(((bAt s 0:Int):Int)==61)=true)(a3:RD n 72 (q1_12 s) (al h.fresh 74 q1_1)=some (.tuple #[.agg #[iv sk,iv sa,iv sb,.string st,iv y.k,iv y.a,iv y.b,.string y.t,iv y.r0,iv y.c0,iv y.r1,iv y.c1,.string y.nm,.slice yr yn yn],e],h1)):∃ H,Fn n 49 [.string s] h (.tuple #[.agg #[iv sk,iv sa,iv sb,.string st,iv y.k,iv y.a,iv y.b,.string y.t,iv y.r0,iv y.c0,iv y.r1,iv y.c1,.string y.nm,.slice yr yn yn],e]) H∧tl1 h1 h1.wm h.nx h1.nx H:=
 exT (kZ h) [aS 74 q1_1,yF a0,yF a1,yI 9 s 0,yT a2,cL 9 s 1,yC a3 (kI (ko gh1_hnx)),.w 0 74 0 (q1_5 sk sa sb st y yr yn),.r 0 74 14,.z 1] []
theorem so_T(h:Heap)(s:ByteArray)(n:Nat)(_hl:0 < s.data.toList.length)(_hl2:s.data.toList.length < 4000)(a0:decide ((s.data.toList.length:Int)>300)=false)(a1:bqS s ⟨#[]⟩=false)(a2:(((bAt s 0:Int):Int)==61)=false)(a3:bqS s ⟨#[84,82,85,69]⟩=true):∃ H,Fn n 49 [.string s] h (.tuple #[.agg #[iv 1,iv 1,iv 1,.string ⟨#[]⟩,iv 0,iv 0,iv 0,.string ⟨#[]⟩,iv 0,iv 0,iv 0,iv 0,.string ⟨#[]⟩,.slice none 0 0],.nilIface]) H∧tl0 h h.fresh.wm (h.nx+1) H:=
 exT (kZ h) [aS 74 q1_1,yF a0,yF a1,yI 9 s 0,yF a2,yT a3,.w 0 74 0 q1_3,.r 0 74 14,.z 1] []
theorem so_F(h:Heap)(s:ByteArray)(n:Nat)(_hl:0 < s.data.toList.length)(_hl2:s.data.toList.length < 4000)(a0:decide ((s.data.toList.length:Int)>300)=false)(a1:bqS s ⟨#[]⟩=false)(a2:(((bAt s 0:Int):Int)==61)=false)(a3:bqS s ⟨#[84,82,85,69]⟩=false)(a4:bqS s ⟨#[70,65,76,83,69]⟩=true):∃ H,Fn n 49 [.string s] h (.tuple #[.agg #[iv 1,iv 1,iv 0,.string ⟨#[]⟩,iv 0,iv 0,iv 0,.string ⟨#[]⟩,iv 0,iv 0,iv 0,iv 0,.string ⟨#[]⟩,.slice none 0 0],.nilIface]) H∧tl0 h h.fresh.wm (h.nx+1) H:=
 exT (kZ h) [aS 74 q1_1,yF a0,yF a1,yI 9 s 0,yF a2,yF a3,yT a4,.w 0 74 0 q1_4,.r 0 74 14,.z 1] []
theorem so_num(h:Heap)(s:ByteArray)(a:Int)(n:Nat)(_hl:0 < s.data.toList.length)(_hl2:s.data.toList.length < 4000)(a0:decide ((s.data.toList.length:Int)>300)=false)(a1:bqS s ⟨#[]⟩=false)(a2:(((bAt s 0:Int):Int)==61)=false)(a3:bqS s ⟨#[84,82,85,69]⟩=false)(a4:bqS s ⟨#[70,65,76,83,69]⟩=false)(a5:Pu n 73 [.string s] (.tuple #[iv a,.bool true]) (al h.fresh 74 q1_1)):∃ H,Fn n 49 [.string s] h (.tuple #[.agg #[iv 1,iv 2,iv a,.string ⟨#[]⟩,iv 0,iv 0,iv 0,.string ⟨#[]⟩,iv 0,iv 0,iv 0,iv 0,.string ⟨#[]⟩,.slice none 0 0],.nilIface]) H∧tl0 h h.fresh.wm (h.nx+1) H:=
 exT (kZ h) [aS 74 q1_1,yF a0,yF a1,yI 9 s 0,yF a2,yF a3,yF a4,yP a5,.w 0 74 0 (q1_9 a),.r 0 74 14,.z 1] []
theorem so_q3(h:Heap)(s t:ByteArray)(a:Int)(n:Nat)(_hl:0 < s.data.toList.length)(_hl2:s.data.toList.length < 4000)(a0:decide ((s.data.toList.length:Int)>300)=false)(a1:bqS s ⟨#[]⟩=false)(a2:(((bAt s 0:Int):Int)==61)=false)(a3:bqS s ⟨#[84,82,85,69]⟩=false)(a4:bqS s ⟨#[70,65,76,83,69]⟩=false)(a5:Pu n 73 [.string s] (q1_19 a) (al h.fresh 74 q1_1))(a6:(((bAt s 0:Int):Int)==39)=true)(a7:Pu n 74 (q1_12 s) (q1_20 t) (al h.fresh 74 q1_1)):∃ H,Fn n 49 [.string s] h (q1_7 t) H∧tl0 h h.fresh.wm (h.nx+2) H:=
 exT (kZ h) [aS 74 q1_1,yF a0,yF a1,yI 9 s 0,yF a2,yF a3,yF a4,yP a5,yI 9 s 0,yT a6,cL 9 s 1,yP a7,aS 27 q1_6,.w 1 27 0 (q1_20 t),.l 1 3 0,bF,.g 1 27 0 3,.w 0 74 0 (q1_11 t),.r 0 74 14,.z 1] []
theorem so_q4(h:Heap)(s:ByteArray)(a:Int)(n:Nat)(_hl:0 < s.data.toList.length)(_hl2:s.data.toList.length < 4000)(hg1:h.get 1=some q1_2)(_h6:6≤h.nx)(a0:decide ((s.data.toList.length:Int)>300)=false)(a1:bqS s ⟨#[]⟩=false)(a2:(((bAt s 0:Int):Int)==61)=false)(a3:bqS s ⟨#[84,82,85,69]⟩=false)(a4:bqS s ⟨#[70,65,76,83,69]⟩=false)(a5:Pu n 73 [.string s] (q1_19 a) (al h.fresh 74 q1_1))(a6:(((bAt s 0:Int):Int)==39)=true)(a7:Pu n 74 (q1_12 s) q1_17 (al h.fresh 74 q1_1)):∃ H,Fn n 49 [.string s] h q1_14 H∧tl0 h h.fresh.wm (h.nx+2) H:=
 exT (kI (ko hg1)) [aS 74 q1_1,yF a0,yF a1,yI 9 s 0,yF a2,yF a3,yF a4,yP a5,yI 9 s 0,yT a6,cL 9 s 1,yP a7,aS 27 q1_6,.w 2 27 0 q1_17,.l 2 3 0,bT,.l 0 84 0,.w 1 74 0 q1_13,yN (h.nx+2),.j 2,.q (.l 0 84 0),.j 3,.q (.l 0 84 0),.r 1 74 14,.z 1] []
theorem so_n3(h:Heap)(s t:ByteArray)(a:Int)(n:Nat)(_hl:0 < s.data.toList.length)(_hl2:s.data.toList.length < 4000)(a0:decide ((s.data.toList.length:Int)>300)=false)(a1:bqS s ⟨#[]⟩=false)(a2:(((bAt s 0:Int):Int)==61)=false)(a3:bqS s ⟨#[84,82,85,69]⟩=false)(a4:bqS s ⟨#[70,65,76,83,69]⟩=false)(a5:Pu n 73 [.string s] (q1_19 a) (al h.fresh 74 q1_1))(a6:(((bAt s 0:Int):Int)==39)=false)(a7:Pu n 74 [.string s] (q1_20 t) (al h.fresh 74 q1_1)):∃ H,Fn n 49 [.string s] h (q1_7 t) H∧tl0 h h.fresh.wm (h.nx+2) H:=
 exT (kZ h) [aS 74 q1_1,yF a0,yF a1,yI 9 s 0,yF a2,yF a3,yF a4,yP a5,yI 9 s 0,yF a6,yP a7,aS 27 q1_6,.w 1 27 0 (q1_20 t),.l 1 3 0,bF,.g 1 27 0 3,.w 0 74 0 (q1_11 t),.r 0 74 14,.z 1] []
theorem so_n4(h:Heap)(s:ByteArray)(a:Int)(n:Nat)(_hl:0 < s.data.toList.length)(_hl2:s.data.toList.length < 4000)(hg1:h.get 1=some q1_2)(_h6:6≤h.nx)(a0:decide ((s.data.toList.length:Int)>300)=false)(a1:bqS s ⟨#[]⟩=false)(a2:(((bAt s 0:Int):Int)==61)=false)(a3:bqS s ⟨#[84,82,85,69]⟩=false)(a4:bqS s ⟨#[70,65,76,83,69]⟩=false)(a5:Pu n 73 [.string s] (q1_19 a) (al h.fresh 74 q1_1))(a6:(((bAt s 0:Int):Int)==39)=false)(a7:Pu n 74 [.string s] q1_17 (al h.fresh 74 q1_1)):∃ H,Fn n 49 [.string s] h q1_14 H∧tl0 h h.fresh.wm (h.nx+2) H:=
 exT (kI (ko hg1)) [aS 74 q1_1,yF a0,yF a1,yI 9 s 0,yF a2,yF a3,yF a4,yP a5,yI 9 s 0,yF a6,yP a7,aS 27 q1_6,.w 2 27 0 q1_17,.l 2 3 0,bT,.l 0 84 0,.w 1 74 0 q1_13,yN (h.nx+2),.j 2,.q (.l 0 84 0),.j 3,.q (.l 0 84 0),.r 1 74 14,.z 1] []
theorem to_nil(h:Heap)(n:Nat)(hg1:h.get 1=some q1_2)(_h6:6≤h.nx)(a0:Pu n 33 [.nilIface,.iface 150 (pv h.nx 0)] (.bool false) (q1_8 h))(a1:Pu n 75 [.nilIface,.iface 309 (pv 11 0)] (.bool false) (q1_8 h)):Fn n 50 [.nilIface] h (.tuple #[iv 0,iv 0]) (q1_8 h):=
 fnT (kI (ko hg1)) [aS 149 [.pointer none],yP a0,.l 0 84 0,yP a1,.z 0]
theorem to_lg(h:Heap)(n:Nat)(hg1:h.get 1=some q1_2)(_h6:6≤h.nx)(a0:Pu n 33 [.iface 309 (pv 11 0),.iface 150 (pv h.nx 0)] (.bool false) (q1_8 h))(a1:Pu n 75 [.iface 309 (pv 11 0),.iface 309 (pv 11 0)] (.bool true) (q1_8 h)):Fn n 50 [.iface 309 (pv 11 0)] h (.tuple #[iv 0,iv 2]) (q1_8 h):=
 fnT (kI (ko hg1)) [aS 149 [.pointer none],yP a0,.l 0 84 0,yP a1,.z 0]
theorem to_w(h h1:Heap)(q e c n:Nat)(w:Value)(gh1_hnx:h1.get h.nx=some (.row 149 [pv q 0] 0 false))(gh1_q:h1.get q=some (.row 152 [iv (e:Int),iv (c:Int),w] 0 false))(a0:RD n 33 [.iface 149 (pv q 0),.iface 150 (pv h.nx 0)] (q1_8 h)=some (.bool true,h1)):Fn n 50 [.iface 149 (pv q 0)] h (.tuple #[iv (e:Int),iv (c:Int)]) h1:=
 fnT (kZ h) [aS 149 [.pointer none],yC a0 (kJ (ko gh1_hnx) (ko gh1_q)),.l 0 149 0,.l 1 3 0,.l 0 149 0,.l 1 33 1,yN h1.nx,.q (.l 0 149 0),.q (.l 1 3 0),.q (.l 0 149 0),.q (.l 1 33 1),.z 0]
theorem sr_p(h h1:Heap)(s:ByteArray)(e:Value)(at_ c n:Nat)(sk sa sb:Int)(st:ByteArray)(y:Hd)(yr:Option Addr)(yn:Nat)(gh1_hnx:h1.get h.nx=some (.row 74 q1_1 0 false))(_lhnxh1:h.nx < h1.nx)(a0:RD n 49 [.string s] (al h.fresh 74 q1_1)=some (.tuple #[.agg #[iv sk,iv sa,iv sb,.string st,iv y.k,iv y.a,iv y.b,.string y.t,iv y.r0,iv y.c0,iv y.r1,iv y.c1,.string y.nm,.slice yr yn yn],e],h1))(a1:Pu n 50 [e] (.tuple #[iv (at_:Int),iv (c:Int)]) (pt (al h1 74 q1_1) h1.nx 74 [iv sk,iv sa,iv sb,.string st,iv y.k,iv y.a,iv y.b,.string y.t,iv y.r0,iv y.c0,iv y.r1,iv y.c1,.string y.nm,.slice yr yn yn])):∃ H,Fn n 29 [.string s] h (.tuple #[.agg #[iv sk,iv sa,iv sb,.string st,iv y.k,iv y.a,iv y.b,.string y.t,iv y.r0,iv y.c0,iv y.r1,iv y.c1,.string y.nm,.slice yr yn yn],iv (at_:Int),iv (c:Int)]) H∧tl1 h1 h1.wm h.nx (h1.nx+1) H:=
 exT (kZ h) [aS 74 q1_1,yC a0 (kI (ko gh1_hnx)),aS 74 q1_1,.w 1 74 0 (q1_5 sk sa sb st y yr yn),yP a1,.g 1 74 0 14,.w 0 74 0 (q1_5 sk sa sb st y yr yn),.r 0 74 14,.z 1] []
theorem rs_long(h:Heap)(s:ByteArray)(n:Nat)(a0:decide ((s.data.toList.length:Int)>300)=true):∃ H,Fn n 31 [.string s] h q1_15 H∧tl0 h h.fresh.wm (h.nx+1) H:=
 exT (kZ h) [aS 80 q1_1,yT a0,.w 0 80 0 q1_13,.r 0 80 14,.z 1] []
theorem rs_emp(h:Heap)(s:ByteArray)(n:Nat)(a0:decide ((s.data.toList.length:Int)>300)=false)(a1:bqS s ⟨#[]⟩=true):∃ H,Fn n 31 [.string s] h (.tuple #[.agg #[iv 0,iv 0,iv 0,.string ⟨#[]⟩,iv 0,iv 0,iv 0,.string ⟨#[]⟩,iv 0,iv 0,iv 0,iv 0,.string ⟨#[]⟩,.slice none 0 0],iv 0,iv 0]) H∧tl0 h h.fresh.wm (h.nx+1) H:=
 exT (kZ h) [aS 80 q1_1,yF a0,yT a1,.w 0 80 0 q1_13,.r 0 80 14,.z 1] []
theorem rs_e(h h1:Heap)(s:ByteArray)(e c n:Nat)(y:Hd)(yr:Option Addr)(yn:Nat)(gh1_hnx:h1.get h.nx=some (.row 80 q1_1 0 false))(_lhnxh1:h.nx < h1.nx)(_hl:0 < s.data.toList.length)(_hl2:s.data.toList.length < 4000)(_he:e < 100000)(a0:decide ((s.data.toList.length:Int)>300)=false)(a1:bqS s ⟨#[]⟩=false)(a2:(((bAt s 0:Int):Int)==61)=true)(a3:RD n 52 (q1_12 s) (al h.fresh 80 q1_1)=some (.tuple #[ndV y yr yn,iv (e:Int),iv (c:Int)],h1))(a4:(((c:Int):Int) !=0)=true):∃ H,Fn n 31 [.string s] h (.tuple #[.agg #[iv 0,iv 0,iv 0,.string ⟨#[]⟩,iv 0,iv 0,iv 0,.string ⟨#[]⟩,iv 0,iv 0,iv 0,iv 0,.string ⟨#[]⟩,.slice none 0 0],iv ((e:Int)+1),iv (c:Int)]) H∧tl1 h1 h1.wm h.nx (h1.nx+1) H:=
 exT (kZ h) [aS 80 q1_1,yF a0,yF a1,yI 9 s 0,yT a2,cL 9 s 1,yC a3 (kI (ko gh1_hnx)),aS 72 z72,.w 1 72 0 (ndV y yr yn),yT a4,yW ((e:Int)+1),.w 0 80 0 q1_13,.r 0 80 14,.z 1] []
theorem rs_ok(h h1:Heap)(s:ByteArray)(e c n:Nat)(y:Hd)(yr:Option Addr)(yn:Nat)(gh1_hnx:h1.get h.nx=some (.row 80 q1_1 0 false))(_lhnxh1:h.nx < h1.nx)(_hl:0 < s.data.toList.length)(_hl2:s.data.toList.length < 4000)(a0:decide ((s.data.toList.length:Int)>300)=false)(a1:bqS s ⟨#[]⟩=false)(a2:(((bAt s 0:Int):Int)==61)=true)(a3:RD n 52 (q1_12 s) (al h.fresh 80 q1_1)=some (.tuple #[ndV y yr yn,iv (e:Int),iv (c:Int)],h1))(a4:(((c:Int):Int) !=0)=false):∃ H,Fn n 31 [.string s] h (.tuple #[.agg #[iv 2,iv 0,iv 0,.string ⟨#[]⟩,iv y.k,iv y.a,iv y.b,.string y.t,iv y.r0,iv y.c0,iv y.r1,iv y.c1,.string y.nm,.slice yr yn yn],iv 0,iv 0]) H∧tl1 h1 h1.wm h.nx (h1.nx+1) H:=
 exT (kZ h) [aS 80 q1_1,yF a0,yF a1,yI 9 s 0,yT a2,cL 9 s 1,yC a3 (kI (ko gh1_hnx)),aS 72 z72,.w 1 72 0 (ndV y yr yn),yF a4,.g 1 72 0 10,.w 0 80 0 (q1_18 y yr yn),.r 0 80 14,.z 1] []
theorem rs_T(h:Heap)(s:ByteArray)(n:Nat)(_hl:0 < s.data.toList.length)(_hl2:s.data.toList.length < 4000)(a0:decide ((s.data.toList.length:Int)>300)=false)(a1:bqS s ⟨#[]⟩=false)(a2:(((bAt s 0:Int):Int)==61)=false)(a3:bqS s ⟨#[84,82,85,69]⟩=true)(a4:bqS s ⟨#[84,82,85,69]⟩=true):∃ H,Fn n 31 [.string s] h (.tuple #[.agg #[iv 1,iv 1,iv 1,.string ⟨#[]⟩,iv 0,iv 0,iv 0,.string ⟨#[]⟩,iv 0,iv 0,iv 0,iv 0,.string ⟨#[]⟩,.slice none 0 0],iv 0,iv 0]) H∧tl0 h h.fresh.wm (h.nx+2) H:=
 exT (kZ h) [aS 80 q1_1,yF a0,yF a1,yI 9 s 0,yF a2,yT a3,aS 27 q1_6,.w 1 27 0 (.agg #[iv 1,iv 0,.string ⟨#[]⟩]),yT a4,.w 1 2 1 (iv 1),.g 1 27 0 3,.w 0 80 0 q1_3,.r 0 80 14,.z 1] []
theorem rs_F(h:Heap)(s:ByteArray)(n:Nat)(_hl:0 < s.data.toList.length)(_hl2:s.data.toList.length < 4000)(a0:decide ((s.data.toList.length:Int)>300)=false)(a1:bqS s ⟨#[]⟩=false)(a2:(((bAt s 0:Int):Int)==61)=false)(a3:bqS s ⟨#[84,82,85,69]⟩=false)(a4:bqS s ⟨#[70,65,76,83,69]⟩=true)(a5:bqS s ⟨#[84,82,85,69]⟩=false):∃ H,Fn n 31 [.string s] h (.tuple #[.agg #[iv 1,iv 1,iv 0,.string ⟨#[]⟩,iv 0,iv 0,iv 0,.string ⟨#[]⟩,iv 0,iv 0,iv 0,iv 0,.string ⟨#[]⟩,.slice none 0 0],iv 0,iv 0]) H∧tl0 h h.fresh.wm (h.nx+2) H:=
 exT (kZ h) [aS 80 q1_1,yF a0,yF a1,yI 9 s 0,yF a2,yF a3,yT a4,aS 27 q1_6,.w 1 27 0 (.agg #[iv 1,iv 0,.string ⟨#[]⟩]),yF a5,.g 1 27 0 3,.w 0 80 0 q1_4,.r 0 80 14,.z 1] []
theorem rs_num(h:Heap)(s:ByteArray)(a:Int)(n:Nat)(_hl:0 < s.data.toList.length)(_hl2:s.data.toList.length < 4000)(a0:decide ((s.data.toList.length:Int)>300)=false)(a1:bqS s ⟨#[]⟩=false)(a2:(((bAt s 0:Int):Int)==61)=false)(a3:bqS s ⟨#[84,82,85,69]⟩=false)(a4:bqS s ⟨#[70,65,76,83,69]⟩=false)(a5:Pu n 51 [.string s] (.agg #[iv a,.bool true]) (al h.fresh 80 q1_1)):∃ H,Fn n 31 [.string s] h (.tuple #[.agg #[iv 1,iv 2,iv a,.string ⟨#[]⟩,iv 0,iv 0,iv 0,.string ⟨#[]⟩,iv 0,iv 0,iv 0,iv 0,.string ⟨#[]⟩,.slice none 0 0],iv 0,iv 0]) H∧tl0 h h.fresh.wm (h.nx+2) H:=
 exT (kZ h) [aS 80 q1_1,yF a0,yF a1,yI 9 s 0,yF a2,yF a3,yF a4,yP a5,aS 117 [iv 0,.bool false],.w 1 117 0 (.agg #[iv a,.bool true]),.l 1 4 1,.l 1 2 0,.w 0 80 0 (q1_9 a),.r 0 80 14,.z 1] []
theorem rs_ql(h:Heap)(s:ByteArray)(a:Int)(n:Nat)(_hl:0 < s.data.toList.length)(_hl2:s.data.toList.length < 4000)(a0:decide ((s.data.toList.length:Int)>300)=false)(a1:bqS s ⟨#[]⟩=false)(a2:(((bAt s 0:Int):Int)==61)=false)(a3:bqS s ⟨#[84,82,85,69]⟩=false)(a4:bqS s ⟨#[70,65,76,83,69]⟩=false)(a5:Pu n 51 [.string s] (q1_10 a) (al h.fresh 80 q1_1))(a6:(((bAt s 0:Int):Int)==39)=true)(a7:decide (((cutS s 1 s.data.toList.length).data.toList.length:Int)>200)=true):∃ H,Fn n 31 [.string s] h q1_15 H∧tl0 h h.fresh.wm (h.nx+2) H:=
 exT (kZ h) [aS 80 q1_1,yF a0,yF a1,yI 9 s 0,yF a2,yF a3,yF a4,yP a5,aS 117 [iv 0,.bool false],.w 1 117 0 (q1_10 a),.l 1 4 1,yI 9 s 0,yT a6,cL 9 s 1,yT a7,.w 0 80 0 q1_13,.r 0 80 14,.z 1] []
theorem rs_qt(h:Heap)(s:ByteArray)(a:Int)(n:Nat)(_hl:0 < s.data.toList.length)(_hl2:s.data.toList.length < 4000)(a0:decide ((s.data.toList.length:Int)>300)=false)(a1:bqS s ⟨#[]⟩=false)(a2:(((bAt s 0:Int):Int)==61)=false)(a3:bqS s ⟨#[84,82,85,69]⟩=false)(a4:bqS s ⟨#[70,65,76,83,69]⟩=false)(a5:Pu n 51 [.string s] (q1_10 a) (al h.fresh 80 q1_1))(a6:(((bAt s 0:Int):Int)==39)=true)(a7:decide (((cutS s 1 s.data.toList.length).data.toList.length:Int)>200)=false):∃ H,Fn n 31 [.string s] h (.tuple #[.agg #[iv 1,iv 3,iv 0,.string (cutS s 1 s.data.toList.length),iv 0,iv 0,iv 0,.string ⟨#[]⟩,iv 0,iv 0,iv 0,iv 0,.string ⟨#[]⟩,.slice none 0 0],iv 0,iv 0]) H∧tl0 h h.fresh.wm (h.nx+2) H:=
 exT (kZ h) [aS 80 q1_1,yF a0,yF a1,yI 9 s 0,yF a2,yF a3,yF a4,yP a5,aS 117 [iv 0,.bool false],.w 1 117 0 (q1_10 a),.l 1 4 1,yI 9 s 0,yT a6,cL 9 s 1,yF a7,.w 0 80 0 (.agg #[iv 1,iv 3,iv 0,.string (cutS s 1 s.data.toList.length),iv 0,iv 0,iv 0,.string ⟨#[]⟩,iv 0,iv 0,iv 0,iv 0,.string ⟨#[]⟩,.slice none 0 0]),.r 0 80 14,.z 1] []
theorem rs_nl(h:Heap)(s:ByteArray)(a:Int)(n:Nat)(_hl:0 < s.data.toList.length)(_hl2:s.data.toList.length < 4000)(a0:decide ((s.data.toList.length:Int)>300)=false)(a1:bqS s ⟨#[]⟩=false)(a2:(((bAt s 0:Int):Int)==61)=false)(a3:bqS s ⟨#[84,82,85,69]⟩=false)(a4:bqS s ⟨#[70,65,76,83,69]⟩=false)(a5:Pu n 51 [.string s] (q1_10 a) (al h.fresh 80 q1_1))(a6:(((bAt s 0:Int):Int)==39)=false)(a7:decide ((s.data.toList.length:Int)>200)=true):∃ H,Fn n 31 [.string s] h q1_15 H∧tl0 h h.fresh.wm (h.nx+2) H:=
 exT (kZ h) [aS 80 q1_1,yF a0,yF a1,yI 9 s 0,yF a2,yF a3,yF a4,yP a5,aS 117 [iv 0,.bool false],.w 1 117 0 (q1_10 a),.l 1 4 1,yI 9 s 0,yF a6,yT a7,.w 0 80 0 q1_13,.r 0 80 14,.z 1] []
theorem rs_nt(h:Heap)(s:ByteArray)(a:Int)(n:Nat)(_hl:0 < s.data.toList.length)(_hl2:s.data.toList.length < 4000)(a0:decide ((s.data.toList.length:Int)>300)=false)(a1:bqS s ⟨#[]⟩=false)(a2:(((bAt s 0:Int):Int)==61)=false)(a3:bqS s ⟨#[84,82,85,69]⟩=false)(a4:bqS s ⟨#[70,65,76,83,69]⟩=false)(a5:Pu n 51 [.string s] (q1_10 a) (al h.fresh 80 q1_1))(a6:(((bAt s 0:Int):Int)==39)=false)(a7:decide ((s.data.toList.length:Int)>200)=false):∃ H,Fn n 31 [.string s] h (.tuple #[.agg #[iv 1,iv 3,iv 0,.string s,iv 0,iv 0,iv 0,.string ⟨#[]⟩,iv 0,iv 0,iv 0,iv 0,.string ⟨#[]⟩,.slice none 0 0],iv 0,iv 0]) H∧tl0 h h.fresh.wm (h.nx+2) H:=
 exT (kZ h) [aS 80 q1_1,yF a0,yF a1,yI 9 s 0,yF a2,yF a3,yF a4,yP a5,aS 117 [iv 0,.bool false],.w 1 117 0 (q1_10 a),.l 1 4 1,yI 9 s 0,yF a6,yF a7,.w 0 80 0 (.agg #[iv 1,iv 3,iv 0,.string s,iv 0,iv 0,iv 0,.string ⟨#[]⟩,iv 0,iv 0,iv 0,iv 0,.string ⟨#[]⟩,.slice none 0 0]),.r 0 80 14,.z 1] []
end
end Go.PanE
namespace Go.PanE
open Go.Proofs
noncomputable section
abbrev q2_1:List Value:=[iv 0,iv 0,iv 0,iv 0,iv 0,iv 0,iv 0,.string ⟨#[]⟩]
abbrev q2_2:List Value:=[iv 0,iv 0,iv 0,.string ⟨#[]⟩,iv 0,iv 0,iv 0,.string ⟨#[]⟩,iv 0,iv 0,iv 0,iv 0,.string ⟨#[]⟩,.slice none 0 0]
abbrev q2_3(ek er ec:Nat)(es:List UInt8):List Value:=[iv (ek:Int),iv (er:Int),iv (ec:Int),iv 0,iv 0,iv 0,iv 0,.string ⟨⟨es⟩⟩]
abbrev q2_4(sk sa sb:Int)(st:ByteArray)(y:Hd)(yr:Option Addr)(yn:Nat):Value:=.agg #[iv sk,iv sa,iv sb,.string st,iv y.k,iv y.a,iv y.b,.string y.t,iv y.r0,iv y.c0,iv y.r1,iv y.c1,.string y.nm,.slice yr yn yn]
abbrev q2_5(a c:Nat):Value:=.agg #[iv (a:Int),iv (c:Int),.bool true]
abbrev q2_6(s:ByteArray)(B2 k:Nat):List (Nat×Value):=[(0,.string s),(2,pv B2 0),(5,iv (k:Int))]
abbrev q2_7(s:ByteArray)(h:Heap):List (Nat×Value):=[(0,.string s),(2,pv h.nx 0),(3,iv 0),(4,iv 0),(5,iv 0)]
abbrev q2_8:List Value:=[iv 0,iv 0,.bool false]
abbrev q2_9(s:ByteArray)(h:Heap)(k:Nat):List (Nat×Value):=[(0,.string s),(2,pv h.nx 0),(5,iv (k:Int))]
abbrev q2_10(a c:Nat):List Value:=[iv (a:Int),iv (c:Int)]
abbrev q2_11(s:ByteArray):List Value:=[.string s,.string ⟨#[32]⟩]
abbrev q2_12(a c:Nat):AObj:=.row 78 [iv (a:Int),iv (c:Int),.bool true] 0 false
abbrev q2_13:Value:=.agg #[iv 0,iv 0,iv 0,iv 0,iv 0,iv 0,iv 0,.string ⟨#[]⟩]
abbrev q2_14(sk sa sb:Int)(st:ByteArray)(y:Hd)(yr:Option Addr)(yn:Nat):List Value:=[iv sk,iv sa,iv sb,.string st,iv y.k,iv y.a,iv y.b,.string y.t,iv y.r0,iv y.c0,iv y.r1,iv y.c1,.string y.nm,.slice yr yn yn]
abbrev q2_15(ek er ec:Nat)(es:List UInt8):List Value:=[.agg #[iv (ek:Int),iv (er:Int),iv (ec:Int),iv 0,iv 0,iv 0,iv 0,.string ⟨⟨es⟩⟩],.agg #[iv (ek:Int),iv (er:Int),iv (ec:Int),iv 0,iv 0,iv 0,iv 0,.string ⟨⟨es⟩⟩]]
abbrev q2_16:Value:=.tuple #[.agg #[iv 0,iv 0,iv 0,iv 0,iv 0,iv 0,iv 0,.string ⟨#[]⟩],iv 0,iv 320]
abbrev q2_17:Value:=.tuple #[.agg #[iv 0,iv 0,iv 0,iv 0,iv 0,iv 0,iv 0,.string ⟨#[]⟩],iv 0,iv 15]
abbrev q2_18(ek er ec:Nat)(es:List UInt8):Value:=.agg #[iv (ek:Int),iv (er:Int),iv (ec:Int),iv 0,iv 0,iv 0,iv 0,.string ⟨⟨es⟩⟩]
abbrev q2_19(h:Heap):Heap:=al (al h.fresh 45 q2_1) 29 [iv 0,iv 0]
abbrev q2_20(a c:Nat):Value:=.tuple #[.agg #[iv (a:Int),iv (c:Int)],.bool true]
abbrev q2_21(t u:ByteArray):Value:=.tuple #[.string t,.string u,.bool true]
abbrev q2_22(hL:Heap)(a c:Nat):Heap:=pt (al hL 78 q2_8) hL.nx 78 [iv (a:Int),iv (c:Int),.bool true]
theorem dr_no(h:Heap)(s t u:ByteArray)(n:Nat)(a0:Pu n 27 (q2_11 s) (.tuple #[.string t,.string u,.bool false]) (al h.fresh 45 q2_1)):Fn n 13 [.string s] h q2_16 (pt (al h.fresh 45 q2_1) h.nx 45 q2_1):=
 fnT (kZ h) [aS 45 q2_1,yP a0,.w 0 45 0 q2_13,.r 0 45 8,.z 1]
theorem dr_na(h:Heap)(s t u:ByteArray)(a c:Int)(n:Nat)(a0:Pu n 27 (q2_11 s) (q2_21 t u) (al h.fresh 45 q2_1))(a1:Pu n 28 [.string t] (.tuple #[.agg #[iv a,iv c],.bool false]) (al h.fresh 45 q2_1)):Fn n 13 [.string s] h q2_17 (pt (pt (q2_19 h) (h.nx+1) 29 [iv a,iv c]) h.nx 45 q2_1):=
 fnT (kZ h) [aS 45 q2_1,yP a0,yP a1,aS 29 [iv 0,iv 0],.w 1 29 0 (.agg #[iv a,iv c]),.w 0 45 0 q2_13,.r 0 45 8,.z 1]
theorem dr_e(h h1:Heap)(s t u:ByteArray)(a c e w n:Nat)(sk sa sb:Int)(st:ByteArray)(y:Hd)(yr:Option Addr)(yn:Nat)(gh1_hnx:h1.get h.nx=some (.row 45 q2_1 0 false))(_lhnxh1:h.nx < h1.nx)(_lhnx1h1:h.nx+1 < h1.nx)(gh1_hnx1:h1.get (h.nx+1)=some (.row 29 (q2_10 a c) 0 false))(_he:e < 100000)(_ht:t.data.toList.length < 4000)(a0:Pu n 27 (q2_11 s) (q2_21 t u) (al h.fresh 45 q2_1))(a1:Pu n 28 [.string t] (q2_20 a c) (al h.fresh 45 q2_1))(a2:RD n 29 [.string u] (pt (q2_19 h) (h.nx+1) 29 (q2_10 a c))=some (.tuple #[.agg #[iv sk,iv sa,iv sb,.string st,iv y.k,iv y.a,iv y.b,.string y.t,iv y.r0,iv y.c0,iv y.r1,iv y.c1,.string y.nm,.slice yr yn yn],iv (e:Int),iv (w:Int)],h1))(a3:(((w:Int):Int) !=0)=true):Fn n 13 [.string s] h (.tuple #[.agg #[iv 0,iv 0,iv 0,iv 0,iv 0,iv 0,iv 0,.string ⟨#[]⟩],iv ((t.data.toList.length+1)+(e:Int)),iv (w:Int)]) (pt (pt (al h1 74 q2_2) h1.nx 74 (q2_14 sk sa sb st y yr yn)) h.nx 45 q2_1):=
 fnT (kZ h) [aS 45 q2_1,yP a0,yP a1,aS 29 [iv 0,iv 0],.w 1 29 0 (.agg #[iv (a:Int),iv (c:Int)]),yC a2 (kI (ko gh1_hnx)),aS 74 q2_2,.w 1 74 0 (q2_4 sk sa sb st y yr yn),yT a3,yW (t.data.toList.length+1),yW ((t.data.toList.length+1)+(e:Int)),.w 0 45 0 q2_13,.r 0 45 8,.z 1]
theorem dr_ok(h h1:Heap)(s t u:ByteArray)(a c e w n:Nat)(sk sa sb:Int)(st:ByteArray)(y:Hd)(yr:Option Addr)(yn:Nat)(gh1_hnx:h1.get h.nx=some (.row 45 q2_1 0 false))(_lhnxh1:h.nx < h1.nx)(_lhnx1h1:h.nx+1 < h1.nx)(gh1_hnx1:h1.get (h.nx+1)=some (.row 29 (q2_10 a c) 0 false))(a0:Pu n 27 (q2_11 s) (q2_21 t u) (al h.fresh 45 q2_1))(a1:Pu n 28 [.string t] (q2_20 a c) (al h.fresh 45 q2_1))(a2:RD n 29 [.string u] (pt (q2_19 h) (h.nx+1) 29 (q2_10 a c))=some (.tuple #[.agg #[iv sk,iv sa,iv sb,.string st,iv y.k,iv y.a,iv y.b,.string y.t,iv y.r0,iv y.c0,iv y.r1,iv y.c1,.string y.nm,.slice yr yn yn],iv (e:Int),iv (w:Int)],h1))(a3:(((w:Int):Int) !=0)=false):Fn n 13 [.string s] h (.tuple #[.agg #[iv 1,iv (a:Int),iv (c:Int),iv 0,iv 0,iv 0,iv 0,.string u],iv 0,iv 0]) (pt (pt (al h1 74 q2_2) h1.nx 74 (q2_14 sk sa sb st y yr yn)) h.nx 45 [iv 1,iv (a:Int),iv (c:Int),iv 0,iv 0,iv 0,iv 0,.string u]):=
 fnT (kZ h) [aS 45 q2_1,yP a0,yP a1,aS 29 [iv 0,iv 0],.w 1 29 0 (.agg #[iv (a:Int),iv (c:Int)]),yC a2 (kJ (ko gh1_hnx1) (ko gh1_hnx)),aS 74 q2_2,.w 2 74 0 (q2_4 sk sa sb st y yr yn),yF a3,.g 0 29 0 2,.w 1 45 0 (.agg #[iv 1,iv (a:Int),iv (c:Int),iv 0,iv 0,iv 0,iv 0,.string u]),.r 1 45 8,.z 1]
theorem lb_on(h:Heap)(s:ByteArray)(k B2 n:Nat)(_hk:k < s.data.toList.length)(_hl2:s.data.toList.length < 4000)(a0:decide (((k:Int):Int) < s.data.toList.length)=true)(a1:(((bAt s (k:Int):Int):Int) !=32)=true):Bd n 59 [1,1,0,0,0] Tryz.f14 (q2_6 s B2 k) h .normal [(0,.string s),(2,pv B2 0),(5,iv ((k:Int)+1))] h:=
 bdF (kZ h) [yT a0,yI 9 s (k:Int),yT a1,yW ((k:Int)+1),.z 0]
theorem lb_sp(h:Heap)(s:ByteArray)(k B2 n:Nat)(_hk:k < s.data.toList.length)(_hl2:s.data.toList.length < 4000)(a0:decide (((k:Int):Int) < s.data.toList.length)=true)(a1:(((bAt s (k:Int):Int):Int) !=32)=false):Bd n 59 [1,1,0,0,0] Tryz.f14 (q2_6 s B2 k) h (.exit 0) (q2_6 s B2 k) h:=
 bdF (kZ h) [yT a0,yI 9 s (k:Int),yF a1,.z 0]
theorem lb_end(h:Heap)(s:ByteArray)(k B2 n:Nat)(a0:decide (((k:Int):Int) < s.data.toList.length)=false):Bd n 59 [1,1,0,0,0] Tryz.f14 (q2_6 s B2 k) h (.exit 0) (q2_6 s B2 k) h:=
 bdF (kZ h) [yF a0,.z 0]
theorem lr_no(h hL:Heap)(s:ByteArray)(k n:Nat)(gL:hL.get h.nx=some (.row 45 q2_1 0 false))(_lL:h.nx < hL.nx)(a0:Lf n 59 [1,1,0,0,0] Tryz.f14 (q2_7 s h) (al h.fresh 45 q2_1) (.exit 0) (q2_9 s h k) hL)(a1:(((k:Int):Int)==s.data.toList.length)=true):Fn n 14 [.string s] h q2_16 (pt hL h.nx 45 q2_1):=
 fnT (kZ h) [aS 45 q2_1,yS a0 (kI (ko gL)),yT a1,.w 0 45 0 q2_13,.r 0 45 8,.z 1]
theorem lr_na(h hL:Heap)(s:ByteArray)(a c:Int)(k n:Nat)(gL:hL.get h.nx=some (.row 45 q2_1 0 false))(_lL:h.nx < hL.nx)(_hk:k < s.data.toList.length)(_hl2:s.data.toList.length < 4000)(a0:Lf n 59 [1,1,0,0,0] Tryz.f14 (q2_7 s h) (al h.fresh 45 q2_1) (.exit 0) (q2_9 s h k) hL)(a1:(((k:Int):Int)==s.data.toList.length)=false)(a2:Pu n 30 [.string (cutS s 0 (k:Int))] (.agg #[iv a,iv c,.bool false]) hL):Fn n 14 [.string s] h q2_17 (pt (pt (al hL 78 q2_8) hL.nx 78 [iv a,iv c,.bool false]) h.nx 45 q2_1):=
 fnT (kZ h) [aS 45 q2_1,yS a0 (kI (ko gL)),yF a1,cH 9 s (k:Int),yP a2,aS 78 q2_8,.w 1 78 0 (.agg #[iv a,iv c,.bool false]),.l 1 4 2,.w 0 45 0 q2_13,.r 0 45 8,.z 1]
theorem lr_e(h hL h1:Heap)(s:ByteArray)(k a c e w n:Nat)(sk sa sb:Int)(st:ByteArray)(y:Hd)(yr:Option Addr)(yn:Nat)(gL:hL.get h.nx=some (.row 45 q2_1 0 false))(_lL:h.nx < hL.nx)(_hk:k < s.data.toList.length)(_hl2:s.data.toList.length < 4000)(gh1_hnx:h1.get h.nx=some (.row 45 q2_1 0 false))(_lhnxh1:h.nx < h1.nx)(_lhLnxh1:hL.nx < h1.nx)(gh1_hLnx:h1.get hL.nx=some (q2_12 a c))(_he:e < 100000)(a0:Lf n 59 [1,1,0,0,0] Tryz.f14 (q2_7 s h) (al h.fresh 45 q2_1) (.exit 0) (q2_9 s h k) hL)(a1:(((k:Int):Int)==s.data.toList.length)=false)(a2:Pu n 30 [.string (cutS s 0 (k:Int))] (q2_5 a c) hL)(a3:RD n 31 [.string (cutS s ((k:Int)+1) s.data.toList.length)] (q2_22 hL a c)=some (.tuple #[.agg #[iv sk,iv sa,iv sb,.string st,iv y.k,iv y.a,iv y.b,.string y.t,iv y.r0,iv y.c0,iv y.r1,iv y.c1,.string y.nm,.slice yr yn yn],iv (e:Int),iv (w:Int)],h1))(a4:(((w:Int):Int) !=0)=true):Fn n 14 [.string s] h (.tuple #[.agg #[iv 0,iv 0,iv 0,iv 0,iv 0,iv 0,iv 0,.string ⟨#[]⟩],iv (((e:Int)+(k:Int))+1),iv (w:Int)]) (pt (pt (al h1 80 q2_2) h1.nx 80 (q2_14 sk sa sb st y yr yn)) h.nx 45 q2_1):=
 fnT (kZ h) [aS 45 q2_1,yS a0 (kZ hL),yF a1,cH 9 s (k:Int),yP a2,aS 78 q2_8,.w 0 78 0 (q2_5 a c),.l 0 4 2,yW ((k:Int)+1),cL 9 s ((k:Int)+1),yC a3 (kI (ko gh1_hnx)),aS 80 q2_2,.w 1 80 0 (q2_4 sk sa sb st y yr yn),yT a4,yW ((e:Int)+(k:Int)),yW (((e:Int)+(k:Int))+1),.w 0 45 0 q2_13,.r 0 45 8,.z 1]
theorem lr_ok(h hL h1:Heap)(s:ByteArray)(k a c e w n:Nat)(sk sa sb:Int)(st:ByteArray)(y:Hd)(yr:Option Addr)(yn:Nat)(gL:hL.get h.nx=some (.row 45 q2_1 0 false))(_lL:h.nx < hL.nx)(_hk:k < s.data.toList.length)(_hl2:s.data.toList.length < 4000)(gh1_hnx:h1.get h.nx=some (.row 45 q2_1 0 false))(_lhnxh1:h.nx < h1.nx)(_lhLnxh1:hL.nx < h1.nx)(gh1_hLnx:h1.get hL.nx=some (q2_12 a c))(a0:Lf n 59 [1,1,0,0,0] Tryz.f14 (q2_7 s h) (al h.fresh 45 q2_1) (.exit 0) (q2_9 s h k) hL)(a1:(((k:Int):Int)==s.data.toList.length)=false)(a2:Pu n 30 [.string (cutS s 0 (k:Int))] (q2_5 a c) hL)(a3:RD n 31 [.string (cutS s ((k:Int)+1) s.data.toList.length)] (q2_22 hL a c)=some (.tuple #[.agg #[iv sk,iv sa,iv sb,.string st,iv y.k,iv y.a,iv y.b,.string y.t,iv y.r0,iv y.c0,iv y.r1,iv y.c1,.string y.nm,.slice yr yn yn],iv (e:Int),iv (w:Int)],h1))(a4:(((w:Int):Int) !=0)=false):Fn n 14 [.string s] h (.tuple #[.agg #[iv 1,iv (a:Int),iv (c:Int),iv 0,iv 0,iv 0,iv 0,.string (cutS s ((k:Int)+1) s.data.toList.length)],iv 0,iv 0]) (pt (pt (al h1 80 q2_2) h1.nx 80 (q2_14 sk sa sb st y yr yn)) h.nx 45 [iv 1,iv (a:Int),iv (c:Int),iv 0,iv 0,iv 0,iv 0,.string (cutS s ((k:Int)+1) s.data.toList.length)]):=
 fnT (kZ h) [aS 45 q2_1,yS a0 (kZ hL),yF a1,cH 9 s (k:Int),yP a2,aS 78 q2_8,.w 0 78 0 (q2_5 a c),.l 0 4 2,yW ((k:Int)+1),cL 9 s ((k:Int)+1),yC a3 (kJ (ko gh1_hLnx) (ko gh1_hnx)),aS 80 q2_2,.w 2 80 0 (q2_4 sk sa sb st y yr yn),yF a4,.g 0 29 0 2,yW ((k:Int)+1),cL 9 s ((k:Int)+1),.w 1 45 0 (.agg #[iv 1,iv (a:Int),iv (c:Int),iv 0,iv 0,iv 0,iv 0,.string (cutS s ((k:Int)+1) s.data.toList.length)]),yN (h1.nx+1),.j 6,.q (.g 0 29 0 2),.q (cL 9 s ((k:Int)+1)),.j 7,.r 1 45 8,.z 1]
theorem ed_eq(h:Heap)(ek er ec n:Nat)(es:List UInt8)(a0:(((ek:Int):Int)==(ek:Int))=true)(a1:eqV 29 (.agg #[iv (er:Int),iv (ec:Int)]) (.agg #[iv (er:Int),iv (ec:Int)])=some (.bool true))(a2:eqV 43 (.agg #[iv 0,iv 0,iv 0,iv 0]) (.agg #[iv 0,iv 0,iv 0,iv 0])=some (.bool true))(a3:bqS ⟨⟨es⟩⟩ ⟨⟨es⟩⟩=true):Fn n 15 (q2_15 ek er ec es) h (.bool true) (al (al h.fresh 45 (q2_3 ek er ec es)) 45 (q2_3 ek er ec es)):=
 fnV (kZ h) [aS 45 (q2_3 ek er ec es),aS 45 (q2_3 ek er ec es),.l 0 3 0,.l 1 3 0,yT a0,.g 0 29 1 2,.g 1 29 1 2,yE a1,.g 0 43 3 4,.g 1 43 3 4,yE a2,.l 0 9 7,.l 1 9 7,yT a3,.z 0]
theorem dd_long(h:Heap)(s:ByteArray)(n:Nat)(a0:decide ((s.data.toList.length:Int)>3000)=true)(a1:Pu n 6 [] (.bool true) h.fresh):Fn n 4 [.string s] h (.bool true) h.fresh:=
 fnV (kZ h) [yT a0,yP a1,.z 0]
theorem dd_p(h h1 h2:Heap)(s:ByteArray)(ek er ec e c n:Nat)(es:List UInt8)(gh2_h1nx:h2.get h1.nx=some (.row 45 (q2_3 ek er ec es) 0 false))(_lh1nxh2:h1.nx < h2.nx)(a0:decide ((s.data.toList.length:Int)>3000)=false)(a1:RD n 13 [.string s] h.fresh=some (.tuple #[.agg #[iv (ek:Int),iv (er:Int),iv (ec:Int),iv 0,iv 0,iv 0,iv 0,.string ⟨⟨es⟩⟩],iv (e:Int),iv (c:Int)],h1))(a2:RD n 14 [.string s] (pt (al h1 45 q2_1) h1.nx 45 (q2_3 ek er ec es))=some (.tuple #[.agg #[iv (ek:Int),iv (er:Int),iv (ec:Int),iv 0,iv 0,iv 0,iv 0,.string ⟨⟨es⟩⟩],iv (e:Int),iv (c:Int)],h2))(a3:Pu n 15 (q2_15 ek er ec es) (.bool true) (pt (al h2 45 q2_1) h2.nx 45 (q2_3 ek er ec es)))(a4:(((e:Int):Int)==(e:Int))=true)(a5:(((c:Int):Int)==(c:Int))=true)(a6:Pu n 6 [] (.bool true) (pt (al h2 45 q2_1) h2.nx 45 (q2_3 ek er ec es))):Fn n 4 [.string s] h (.bool true) (pt (al h2 45 q2_1) h2.nx 45 (q2_3 ek er ec es)):=
 fnV (kZ h) [yF a0,yC a1 (kZ h1),aS 45 q2_1,.w 0 45 0 (q2_18 ek er ec es),yC a2 (kI (ko gh2_h1nx)),aS 45 q2_1,.w 1 45 0 (q2_18 ek er ec es),.g 0 45 0 8,.g 1 45 0 8,yP a3,yT a4,yT a5,yP a6,.z 0]
end
end Go.PanE
namespace Go.PanE
open Go.Proofs
theorem h0_1{m:Int}{h:Heap}(G:Gl m h):h.get 1=some (.row 84 [.iface 309 (pv 11 0)] 0 true):=by
 rw[G.get 1 (by decide),h0_get,if_pos (by decide)]
 rfl
theorem low_err3{n q:Nat}{x:Value}(h:n≤q):lowV n 5 (.tuple #[x,.iface 149 (pv q 0)])=false:=by
 simp[lowV,blt_false h]
theorem orcD_75:orcD 75=some orc75:=by kernel_rfl
theorem as_src{m:Int}{h:Heap}(G:Gl m h)(q c:Nat)(y:Value)(hc:h.get c=some (.row 149 [y] 0 false))(n:Nat)(hn:1≤n):
  RD n 33 [.iface 149 (pv q 0),.iface 150 (pv c 0)] h=some (.bool true,pt h c 149 [pv q 0]):=by
 obtain⟨n,rfl⟩:∃ m,n=m+1:=⟨n - 1,by omega⟩
 obtain⟨t,cs,h0,he⟩:=h0_0 G
 show runA En orcD (drawn En) 5000 (n+1) 33 _ h=_
 simp only[runA,orcD_33,orc33,h0,he,cond_true,Nat.beq_refl,storeC,hc,setL]
 rfl
theorem as_no{m:Int}{h:Heap}(G:Gl m h)(c:Nat)(y:Value)(hc:h.get c=some (.row 149 [y] 0 false))(n:Nat)(hn:1≤n):
  RD n 33 [.iface 309 (pv 11 0),.iface 150 (pv c 0)] h=some (.bool false,h):=by
 obtain⟨n,rfl⟩:∃ m,n=m+1:=⟨n - 1,by omega⟩
 obtain⟨t,cs,h0,he⟩:=h0_0 G
 show runA En orcD (drawn En) 5000 (n+1) 33 _ h=_
 simp only[runA,orcD_33,orc33,h0,he,cond_true,hc]
 rfl
theorem is_nil_law(h:Heap)(n:Nat)(hn:1≤n):RD n 75 [.nilIface,.iface 309 (pv 11 0)] h=some (.bool false,h):=by
 obtain⟨n,rfl⟩:∃ m,n=m+1:=⟨n - 1,by omega⟩
 show runA En orcD (drawn En) 5000 (n+1) 75 _ h=_
 simp only[runA,orcD_75,orc75]
theorem is_same_law(h:Heap)(n:Nat)(hn:1≤n):RD n 75 [.iface 309 (pv 11 0),.iface 309 (pv 11 0)] h=some (.bool true,h):=by
 obtain⟨n,rfl⟩:∃ m,n=m+1:=⟨n - 1,by omega⟩
 show runA En orcD (drawn En) 5000 (n+1) 75 _ h=_
 simp only[runA,orcD_75,orc75]
 rfl
/-- A source as a value. -/
def srV(k a b:Int)(t:ByteArray)(y:Hd)(r:Option Addr)(l:Nat):Value:=.agg #[iv k,iv a,iv b,.string t,iv y.k,iv y.a,iv y.b,.string y.t,iv y.r0,iv y.c0,iv y.r1,iv y.c1,.string y.nm,.slice r l l]
def IsSrc(v:Value):Prop:=∃ k a b t y r l,v=srV k a b t y r l
/-- An error's cells. -/
def ErrAt(h:Heap)(lo:Nat)(e:Value)(at_ c:Nat):Prop:=
 (c=0∧at_=0∧e= .nilIface)∨(c=2∧at_=0∧e= .iface 309 (pv 11 0))∨(∃ q w,e= .iface 149 (pv q 0)∧lo≤q∧h.get q=some (.row 152 [iv ((at_:Nat):Int),iv ((c:Nat):Int),w] 0 false))
def ResS(h:Heap)(X:Option (Value×Heap))(at_ c:Nat):Prop:=∃ v e h',X=some (.tuple #[v,e],h')∧IsSrc v∧Kp h h'∧ErrAt h' h.nx e at_ c
theorem ress_nil{h H:Heap}{X:Option (Value×Heap)}{v:Value}(e:X=some (finish h (.tuple #[v,.nilIface]) H))(S:IsSrc v)(K:Kp h.fresh H):ResS h X 0 0:=
 ⟨_,_,_,PanE.fin e,S,K.fin,.inl ⟨rfl,rfl,rfl⟩⟩
theorem ress_lg{h H:Heap}{X:Option (Value×Heap)}{v:Value}(e:X=some (finish h (.tuple #[v,.iface 309 (pv 11 0)]) H))(S:IsSrc v)(K:Kp h.fresh H):ResS h X 0 2:=
 ⟨_,_,_,PanE.fin e,S,K.fin,.inr (.inl ⟨rfl,rfl,rfl⟩)⟩
theorem ress_er{h H:Heap}{X:Option (Value×Heap)}{v w:Value}{q a c:Nat}(e:X=some (finish h (.tuple #[v,.iface 149 (pv q 0)]) H))(S:IsSrc v)(K:Kp h.fresh H)(hq:h.nx≤q)(g:H.get q=some (.row 152 [iv ((a:Nat):Int),iv ((c:Nat):Int),w] 0 false)):ResS h X a c:=
 ⟨_,_,_,fin_new e (low_err3 hq),S,⟨K.nx,K.get,Nat.min_le_left _ _⟩,.inr (.inr ⟨q,w,rfl,hq,g⟩)⟩
theorem kp_own{h h1 H:Heap}{lo:Nat}(K:Kp h.fresh h1)(g:∀ c,c < h1.nx→c≠lo→H.get c=h1.get c)(hlo:h.nx≤lo)(nx:h1.nx≤H.nx)(wm:H.wm≤h.nx):Kp h.fresh H:=
 ⟨Nat.le_trans K.nx nx,fun c hc=>by
  have hc':c < h.nx:=hc
  exact(g c (Nat.lt_of_lt_of_le hc K.nx) (by omega)).trans (K.get c hc),wm⟩
theorem src0:IsSrc (.agg #[iv 0,iv 0,iv 0,.string ⟨#[]⟩,iv 0,iv 0,iv 0,.string ⟨#[]⟩,iv 0,iv 0,iv 0,iv 0,.string ⟨#[]⟩,.slice none 0 0]):=⟨0,0,0,⟨#[]⟩,hdZ,none,0,rfl⟩
def pM(s:List UInt8):Nat×Nat:=match parseM adr s with| .err p c=>(p+1,c)| .ok _ _=>(0,0)
theorem parsed72{m:Int}(s:ByteArray)(h:Heap)(n:Nat)(hn:1500≤n)(G:Gl m h):ResS h (RD n 72 [.string s] h) (pM s.data.toList).1 (pM s.data.toList).2:=by
 obtain⟨n,rfl⟩:∃ m,n=m+1:=⟨n - 1,by omega⟩
 have hG:=G.nx
 let z74:List Value:=[iv 0,iv 0,iv 0,.string ⟨#[]⟩,iv 0,iv 0,iv 0,.string ⟨#[]⟩,iv 0,iv 0,iv 0,iv 0,.string ⟨#[]⟩,.slice none 0 0]
 have K0:Kp h.fresh (al h.fresh 74 z74):=(Kp.refl _).al _ _
 have g0:(al h.fresh 74 z74).get h.nx=some (.row 74 z74 0 false):=gN (h:=h.fresh)
 have n0:(al h.fresh 74 z74).nx=h.nx+1:=rfl
 have G0:Gl m (al h.fresh 74 z74):=G.fresh.alloc _
 obtain⟨v1,h1,e1,K1,R1⟩:=parse_law (adrA m) s (al h.fresh 74 z74) n (by omega) G0
 have n1:=K1.nx
 rw[n0] at n1
 have g1:=(K1.get h.nx (by rw[n0];omega)).trans g0
 have K01:=K0.trans K1
 have G1:h1.get 1=some (.row 84 [.iface 309 (pv 11 0)] 0 true):=(K1.get 1 (by rw[n0];omega)).trans (h0_1 G0)
 unfold pM
 cases hp:parseM adr s.data.toList with
 |ok t k=>
  rw[hp] at R1
  obtain⟨x,r,l,rfl,_⟩:=R1
  obtain⟨H,e,g,nx,_,wm⟩:=sp_ok h h1 s 0 0 n x r l g1 (by omega) e1 rfl
  exact ress_nil e ⟨2,0,0,⟨#[]⟩,x,r,l,rfl⟩ (kp_own K01 g (Nat.le_refl _) (by omega) wm)
 |err p c=>
  rw[hp] at R1
  obtain⟨hc,hp3⟩:=parseM_er hp
  have e1':RD n 105 [.string s] (al h.fresh 74 z74)=some (.tuple #[ndV hdZ none 0,iv ((p:Nat):Int),iv ((c:Nat):Int)],h1):=by rw[e1,R1];rfl
  by_cases h2:c=2
  ·obtain⟨H,e,g,nx,_,wm,w⟩:=sp_lg h h1 s p c n hdZ none 0 g1 (by omega) G1 (by omega) (by omega) e1' (neK (k:=0) hc) (eqK (k:=2) h2)
   exact ress_er (a:=p+1) e src0 (kp_own K01 g (Nat.le_refl _) (by omega) wm) (by omega) w
  ·obtain⟨H,e,g,nx,_,wm,w⟩:=sp_e h h1 s p c n hdZ none 0 g1 (by omega) G1 (by omega) (by omega) e1' (neK (k:=0) hc) (neK (k:=2) h2)
   exact ress_er (a:=p+1) e src0 (kp_own K01 g (Nat.le_refl _) (by omega) wm) (by omega) w
theorem dec70_law{m:Int}{h:Heap}(G:Gl m h){a:Int}(h1: -9223372036854775808≤a)(h2:a≤9223372036854775807)(n:Nat)(hn:2≤n):RD n 45 [iv a] h=some (.string ⟨⟨Lib.itoa a⟩⟩,h):=by
 obtain⟨n,rfl⟩:∃ m,n=m+1+1:=⟨n - 2,by omega⟩
 have e70:RD (n+1) 70 [iv a,iv 10] h.fresh=some (.string ⟨⟨Lib.itoa a⟩⟩,h.fresh):=by
  show runA En orcD (drawn En) 5000 (n+1) 70 _ h.fresh=_
  simp only[runA,orcD_70,orc70]
  exact dec_law G.fresh h1 h2
 exact fin_old (nd_p h _ a (n+1) e70) rfl
/-- num.Parse: total; a long text is none. -/
theorem num73{m:Int}{h:Heap}(G:Gl m h)(l:List UInt8)(hl:l.length≤4000)(n:Nat)(hn:3≤n):∃ a ok,RD n 73 [.string ⟨⟨l⟩⟩] h=some (.tuple #[iv a,.bool ok],h)∧(20 < l.length→ok=false):=by
 obtain⟨n,rfl⟩:∃ m,n=m+1+1:=⟨n - 2,by omega⟩
 have hb:Nat.ble (⟨⟨l⟩⟩:ByteArray).size 281474976710656=true:=by rw[Nat.ble_eq,ba_size];omega
 obtain⟨g4,g5⟩:=h0_2 G.fresh
 have low:∀ {X:Option (Value×Heap)} {v:List Value} {H:Heap},X=some (finish h (.tuple ⟨v⟩) H)→h.nx≤H.wm→lowV h.nx 5 (.tuple ⟨v⟩)=true→X=some (.tuple ⟨v⟩,h):=fun e hw hv=>by rw[e,finish_low hw hv]
 have e106:∀ {x:Option (Value×Heap)},orc106 [.string ⟨⟨l⟩⟩,iv 10,iv 64] h.fresh=x→RD (n+1) 106 [.string ⟨⟨l⟩⟩,iv 10,iv 64] h.fresh=x:=fun hx=>by
  show runA En orcD (drawn En) 5000 (n+1) 106 _ h.fresh=_
  simp only[runA,orcD_106]
  exact hx
 cases hp:Lib.parseIntB 64 l with
 |ok a=>
  have e1:=e106 (x:=some (.tuple #[iv a,.nilIface],h.fresh)) (by simp only[orc106,hb,cond_true,hp])
  have hr: -9223372036854775808≤a∧a≤9223372036854775807:=by
   unfold Lib.parseIntB at hp
   cases l with
   |nil=>cases hp
   |cons b t=>
    simp only at hp
    split at hp
    ·cases hp
    ·cases hp
    next u _=>
     split at hp
     ·cases hp
     next h1=>
      split at hp
      ·cases hp
      next h2=>
       simp only[Lib.NumEnd.ok.injEq] at hp
       subst hp
       split
       next h3=>
        have:¬ 2 ^ (64 - 1) < u:=fun h=>h2 ⟨h3,h⟩
        omega
       next h3=>
        have:¬ 2 ^ (64 - 1)≤u:=fun h=>h1 ⟨h3,h⟩
        omega
  have e45:=dec70_law G.fresh hr.1 hr.2 (n+1) (by omega)
  by_cases he:Lib.itoa a=l
  ·refine⟨a,true,low (nu_ok h ⟨⟨l⟩⟩ _ a (n+1) e1 e45 (congrArg (! ·) ((beqL _ _).trans (decide_eq_true he)))) (Nat.le_refl _) rfl,fun h20=>?_⟩
   have:=itoa_len hr.1 hr.2
   rw[he] at this
   omega
  ·exact⟨0,false,low (nu_ne h ⟨⟨l⟩⟩ _ a (n+1) e1 e45 (congrArg (! ·) ((beqL _ _).trans (decide_eq_false he)))) (Nat.le_refl _) rfl,fun _=>rfl⟩
 |range=>
  have e1:=e106 (x:=some (.tuple #[iv (Lib.intSat 64 l),.iface 279 (pv h.nx 0)],reserve 1 h.fresh)) (by simp only[orc106,hb,cond_true,hp,g5];rfl)
  exact⟨0,false,low (nu_err h _ ⟨⟨l⟩⟩ _ h.nx (n+1) e1) (by rw[Heap.wm_reserve];exact Nat.le_refl _) rfl,fun _=>rfl⟩
 |_=>
  have e1:=e106 (x:=some (.tuple #[iv 0,.iface 279 (pv h.nx 0)],reserve 1 h.fresh)) (by simp only[orc106,hb,cond_true,hp,g4];rfl)
  exact⟨0,false,low (nu_err h _ ⟨⟨l⟩⟩ 0 h.nx (n+1) e1) (by rw[Heap.wm_reserve];exact Nat.le_refl _) rfl,fun _=>rfl⟩
end Go.PanE
