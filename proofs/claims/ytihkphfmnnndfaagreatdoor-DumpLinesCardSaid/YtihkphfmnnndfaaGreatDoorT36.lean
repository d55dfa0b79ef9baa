/-
 Part 36 of the proof of Rows.DumpLinesCardSaid. No conditions.
-/
import Derived.Test.YtihkphfmnnndfaaGreatDoorT35
namespace Go.PanE
open Go.Proofs
noncomputable section
abbrev zjj(s:BA)(h:Heap):List (Nat×Value):=[(0,.string s),(2,pv h.nx 0),(3,iv 0),(7,.string s),(8,iv s.data.toList.length),(9,.bool true),(10,.bool true),(11,.string s),(12,.int .u8 (bAt s 0:Int)),(13,.bool false),(14,.bool false),(15,.string s),(16,iv s.data.toList.length),(17,iv 0),(18,.bool false),(19,.bool false),(20,.string s),(21,iv s.data.toList.length),(22,.bool false),(23,.bool false),(4,.int .u64 0),(25,iv 0),(5,iv 0)]
abbrev zji(s:BA)(h:Heap):List (Nat×Value):=[(0,.string s),(2,pv h.nx 0),(3,iv 1),(7,.string s),(8,iv s.data.toList.length),(9,.bool true),(10,.bool true),(11,.string s),(12,.int .u8 (bAt s 0:Int)),(13,.bool true),(14,.bool true),(15,.string s),(16,iv s.data.toList.length),(17,iv 1),(18,.bool false),(19,.bool false),(20,.string s),(21,iv s.data.toList.length),(22,.bool false),(23,.bool false),(4,.int .u64 0),(25,iv 1),(5,iv 1)]
abbrev jx:Value:=.agg #[iv 0,.bool false]
abbrev uJ:AObj:=.row 117 [iv 0,.bool false] 0 false
abbrev zgz(s:BA)(B2 f u i:Nat):List (Nat×Value):=[(0,.string s),(2,pv B2 0),(3,iv (f:Int)),(4,.int .u64 (u:Int)),(5,iv (i:Int))]
abbrev zjh(u:Nat)(d:BA):Value:=.string ((zv ⟨#[48,49,50,51,52,53,54,55,56,57]⟩ ((u % 10:Nat):Int) (((u % 10:Nat):Int)+1))++d)
abbrev yY(N:Int):Value:=.agg #[iv N,.bool true]
abbrev zno(s:BA)(h:Heap)(u:Nat):List (Nat×Value):=[(0,.string s),(2,pv h.nx 0),(3,iv 1),(4,.int .u64 (u:Int))]
abbrev znn(s:BA)(h:Heap)(u:Nat):List (Nat×Value):=[(0,.string s),(2,pv h.nx 0),(3,iv 0),(4,.int .u64 (u:Int))]
abbrev zpC(N:Int):Value:=.agg #[iv N,.bool false]
abbrev zfD:Value:=.agg #[iv (-9223372036854775808),.bool true]
variable (h:Heap) (a:Int) (w:Nat) (hL:Heap) (s d:BA) (f u i B2 n:Nat) (N:Int)
theorem zyf(_h1: -9223372036854775808≤a)(_h2:a < 0)(_e:IntKind.i64.wrap (0 - (a+1))= -(a+1))(a0:decide ((a:Int) < 0)=true):Fn n 68 [iv a] h (.int .u64 ((IntKind.i64.wrap (0 - (a+1)))+1)) h.fh:=
 fnV (kZ h) [yT a0,yW (a+1),.x [.v (.int .u64 (IntKind.i64.wrap (0 - (a+1))))] fun _=>[⟨some (Value.int .u64 (IntKind.u64.wrap (IntKind.i64.wrap (0 - (a+1)))))=some (.int .u64 (IntKind.i64.wrap (0 - (a+1)))),jv (by omega) (by omega)⟩],.x [.v (.int .u64 ((IntKind.i64.wrap (0 - (a+1)))+1))] fun _=>[⟨some (Value.int .u64 (IntKind.u64.wrap ((IntKind.i64.wrap (0 - (a+1)))+1)))=some (.int .u64 ((IntKind.i64.wrap (0 - (a+1)))+1)),jv (by omega) (by omega)⟩],.z 0]
theorem zye(_h1:0≤a)(_h2:a≤9223372036854775807)(a0:decide ((a:Int) < 0)=false):Fn n 68 [iv a] h (.int .u64 a) h.fh:=
 fnV (kZ h) [yF a0,.x [.v (.int .u64 a)] fun _=>[⟨some (Value.int .u64 (IntKind.u64.wrap a))=some (.int .u64 a),jv (by omega) (by omega)⟩],.z 0]
theorem zxB(d:BA)(_hu:u < 18446744073709551616)(_hi:i < 20)(_hd:d.size≤100)(_ld:(⟨#[48,49,50,51,52,53,54,55,56,57]⟩:BA).data.toList.length=10)(a0:decide ((i:Int) < 20)=true)(a1:wF .rem .u64 (u:Int) 10=some (.int .u64 ((u % 10:Nat):Int)))(a2:wF .rem .u64 (u:Int) 10=some (.int .u64 ((u % 10:Nat):Int)))(a3:wF .quo .u64 (u:Int) 10=some (.int .u64 ((u / 10:Nat):Int)))(a4:((((u / 10:Nat):Int):Int)==0)=false):Bd n 22 [1,1,0,1,0,0] Tryz.f67 [(0,.int .u64 (u:Int)),(3,.string d),(4,iv (i:Int))] h .normal [(0,.int .u64 ((u / 10:Nat):Int)),(3,.string ((zv ⟨#[48,49,50,51,52,53,54,55,56,57]⟩ ((u % 10:Nat):Int) (((u % 10:Nat):Int)+1))++d)),(4,iv ((i:Int)+1))] h:=
 bdF (kZ h) [yT a0,yE a1,yE a2,.x [.v (.int .u64 (((u % 10:Nat):Int)+1))] fun _=>[⟨some (Value.int .u64 (IntKind.u64.wrap (((u % 10:Nat):Int)+1)))=some (.int .u64 (((u % 10:Nat):Int)+1)),jv (by omega) (by omega)⟩],cB 9 ⟨#[48,49,50,51,52,53,54,55,56,57]⟩ ((u % 10:Nat):Int) (((u % 10:Nat):Int)+1),.x [.v (zjh u d)] fun _=>[⟨jn .add (zv ⟨#[48,49,50,51,52,53,54,55,56,57]⟩ ((u % 10:Nat):Int) (((u % 10:Nat):Int)+1)) d=some (zjh u d),jV (by have _q:(zv ⟨#[48,49,50,51,52,53,54,55,56,57]⟩ ((u % 10:Nat):Int) (((u % 10:Nat):Int)+1)).size≤10:=ze1 _ _ _ (Nat.le_of_eq _ld);omega)⟩],yE a3,yF a4,yW ((i:Int)+1),.z 0]
theorem zl9(d:BA)(_hu:u < 18446744073709551616)(_hi:i < 20)(_hd:d.size≤100)(_ld:(⟨#[48,49,50,51,52,53,54,55,56,57]⟩:BA).data.toList.length=10)(a0:decide ((i:Int) < 20)=true)(a1:wF .rem .u64 (u:Int) 10=some (.int .u64 ((u % 10:Nat):Int)))(a2:wF .rem .u64 (u:Int) 10=some (.int .u64 ((u % 10:Nat):Int)))(a3:wF .quo .u64 (u:Int) 10=some (.int .u64 ((u / 10:Nat):Int)))(a4:((((u / 10:Nat):Int):Int)==0)=true):Bd n 22 [1,1,0,1,0,0] Tryz.f67 [(0,.int .u64 (u:Int)),(3,.string d),(4,iv (i:Int))] h (.exit 0) [(3,.string ((zv ⟨#[48,49,50,51,52,53,54,55,56,57]⟩ ((u % 10:Nat):Int) (((u % 10:Nat):Int)+1))++d))] h:=
 bdF (kZ h) [yT a0,yE a1,yE a2,.x [.v (.int .u64 (((u % 10:Nat):Int)+1))] fun _=>[⟨some (Value.int .u64 (IntKind.u64.wrap (((u % 10:Nat):Int)+1)))=some (.int .u64 (((u % 10:Nat):Int)+1)),jv (by omega) (by omega)⟩],cB 9 ⟨#[48,49,50,51,52,53,54,55,56,57]⟩ ((u % 10:Nat):Int) (((u % 10:Nat):Int)+1),.x [.v (zjh u d)] fun _=>[⟨jn .add (zv ⟨#[48,49,50,51,52,53,54,55,56,57]⟩ ((u % 10:Nat):Int) (((u % 10:Nat):Int)+1)) d=some (zjh u d),jV (by have _q:(zv ⟨#[48,49,50,51,52,53,54,55,56,57]⟩ ((u % 10:Nat):Int) (((u % 10:Nat):Int)+1)).size≤10:=ze1 _ _ _ (Nat.le_of_eq _ld);omega)⟩],yE a3,yT a4,.z 0]
theorem zxC(d:BA)(a0:Lf n 22 [1,1,0,1,0,0] Tryz.f67 [(0,.int .u64 (u:Int)),(2,.string ⟨#[]⟩),(3,.string ⟨#[]⟩),(4,iv 0)] h.fh (.exit 0) [(3,.string d)] hL):Fn n 67 [.int .u64 (u:Int)] h (.string d) hL:=
 fnV (kZ h) [yS a0 (kZ hL),.z 0]
theorem zBB(d:BA)(a0:decide ((a:Int) < 0)=false)(a1:Pu n 68 [iv a] (.int .u64 (w:Int)) h.fh)(a2:Pu n 67 [.int .u64 (w:Int)] (.string d) h.fh):Fn n 42 [iv a] h (.string d) h.fh:=
 fnV (kZ h) [yF a0,yP a1,yP a2,.z 0]
theorem zBC(d:BA)(_hd:d.size≤100)(a0:decide ((a:Int) < 0)=true)(a1:Pu n 68 [iv a] (.int .u64 (w:Int)) h.fh)(a2:Pu n 67 [.int .u64 (w:Int)] (.string d) h.fh):Fn n 42 [iv a] h (.string (⟨#[45]⟩++d)) h.fh:=
 fnV (kZ h) [yT a0,yP a1,yP a2,.x [.v (.string (⟨#[45]⟩++d))] fun _=>[⟨jn .add ⟨#[45]⟩ d=some (.string (⟨#[45]⟩++d)),jV (by show 1+d.size≤9223372036854775807;omega)⟩],.z 0]
theorem zsX(_hu:u < 18446744073709551616)(a0:((u:Int)==9223372036854775808)=true):Fn n 76 [.int .u64 (u:Int),.bool true] h zfD (pt (al h.fh 117 [iv 0,.bool false]) h.nx 117 [iv (-9223372036854775808),.bool true]):=
 fnV (kZ h) [aS 117 [iv 0,.bool false],yT a0,.w 0 117 0 zfD,.r 0 117 2]
theorem zvO(_hu:u < 18446744073709551616)(a0:((u:Int)==9223372036854775808)=false)(a1:decide ((u:Int)≥9223372036854775808)=true):Fn n 76 [.int .u64 (u:Int),.bool true] h jx (pt (al h.fh 117 [iv 0,.bool false]) h.nx 117 [iv 0,.bool false]):=
 fnV (kZ h) [aS 117 [iv 0,.bool false],yF a0,yT a1,.w 0 117 0 jx,.r 0 117 2]
theorem zvM(_hu:u < 18446744073709551616)(a0:decide ((u:Int)≥9223372036854775808)=true):Fn n 76 [.int .u64 (u:Int),.bool false] h jx (pt (al h.fh 117 [iv 0,.bool false]) h.nx 117 [iv 0,.bool false]):=
 fnV (kZ h) [aS 117 [iv 0,.bool false],yT a0,.w 0 117 0 jx,.r 0 117 2]
theorem zsW(_hu:u < 9223372036854775808)(a0:((u:Int)==9223372036854775808)=false)(a1:decide ((u:Int)≥9223372036854775808)=false):Fn n 76 [.int .u64 (u:Int),.bool true] h (.agg #[iv (IntKind.i64.wrap (0 - (u:Int))),.bool true]) (pt (al h.fh 117 [iv 0,.bool false]) h.nx 117 [iv (IntKind.i64.wrap (0 - (u:Int))),.bool true]):=
 fnV (kZ h) [aS 117 [iv 0,.bool false],yF a0,yF a1,yW (u:Int),.w 0 117 0 (.agg #[iv (IntKind.i64.wrap (0 - (u:Int))),.bool true]),.r 0 117 2]
theorem zsV(_hu:u < 9223372036854775808)(a0:decide ((u:Int)≥9223372036854775808)=false):Fn n 76 [.int .u64 (u:Int),.bool false] h (.agg #[iv (u:Int),.bool true]) (pt (al h.fh 117 [iv 0,.bool false]) h.nx 117 [iv (u:Int),.bool true]):=
 fnV (kZ h) [aS 117 [iv 0,.bool false],yF a0,yW (u:Int),.w 0 117 0 (.agg #[iv (u:Int),.bool true]),.r 0 117 2]
theorem ztz(g2:h.get B2=some uJ)(_hu:u≤9223372036854775809)(_hi:i < 4000)(_hs:s.data.toList.length < 4000)(a0:decide ((i:Int) < s.data.toList.length)=false):Bd n 71 [1,1,1,1,1,0,1,0,0] Tryz.f51 (zgz s B2 f u i) h (.exit 0) [(0,.string s),(2,pv B2 0),(3,iv (f:Int)),(4,.int .u64 (u:Int))] h:=
 bdF (kZ h) [yF a0,.z 0]
theorem zwB(g2:h.get B2=some uJ)(_hu:u≤9223372036854775809)(_hi:i < 4000)(_hs:s.data.toList.length < 4000)(_hl:i < s.data.toList.length)(a0:decide ((i:Int) < s.data.toList.length)=true)(a1:decide (((bAt s (i:Int):Int):Int) < 48)=true):Bd n 71 [1,1,1,1,1,0,1,0,0] Tryz.f51 (zgz s B2 f u i) h .ret [(2,pv B2 0)] (pt h B2 117 [iv 0,.bool false]):=
 bdF (kI (ko g2)) [yT a0,yI 9 s (i:Int),yT a1,.w 0 117 0 jx,.z 0]
theorem zwA(g2:h.get B2=some uJ)(_hu:u≤9223372036854775809)(_hi:i < 4000)(_hs:s.data.toList.length < 4000)(_hl:i < s.data.toList.length)(a0:decide ((i:Int) < s.data.toList.length)=true)(a1:decide (((bAt s (i:Int):Int):Int) < 48)=false)(a2:decide (((bAt s (i:Int):Int):Int)>57)=true):Bd n 71 [1,1,1,1,1,0,1,0,0] Tryz.f51 (zgz s B2 f u i) h .ret [(2,pv B2 0)] (pt h B2 117 [iv 0,.bool false]):=
 bdF (kI (ko g2)) [yT a0,yI 9 s (i:Int),yF a1,yI 9 s (i:Int),yT a2,.w 0 117 0 jx,.z 0]
theorem zwz(g2:h.get B2=some uJ)(_hu:u≤9223372036854775809)(_hi:i < 4000)(_hs:s.data.toList.length < 4000)(_hl:i < s.data.toList.length)(a0:decide ((i:Int) < s.data.toList.length)=true)(a1:decide (((bAt s (i:Int):Int):Int) < 48)=false)(a2:decide (((bAt s (i:Int):Int):Int)>57)=false)(a3:decide ((u:Int)>922337203685477580)=true):Bd n 71 [1,1,1,1,1,0,1,0,0] Tryz.f51 (zgz s B2 f u i) h .ret [(2,pv B2 0)] (pt h B2 117 [iv 0,.bool false]):=
 bdF (kI (ko g2)) [yT a0,yI 9 s (i:Int),yF a1,yI 9 s (i:Int),yF a2,yT a3,.w 0 117 0 jx,.z 0]
theorem zwx(g2:h.get B2=some uJ)(_hu:u≤9223372036854775809)(_hi:i < 4000)(_hs:s.data.toList.length < 4000)(_hl:i < s.data.toList.length)(_hu2:u≤922337203685477580)(_hb:48≤bAt s (i:Int))(_hb2:bAt s (i:Int)≤57)(a0:decide ((i:Int) < s.data.toList.length)=true)(a1:decide (((bAt s (i:Int):Int):Int) < 48)=false)(a2:decide (((bAt s (i:Int):Int):Int)>57)=false)(a3:decide ((u:Int)>922337203685477580)=false):Bd n 71 [1,1,1,1,1,0,1,0,0] Tryz.f51 (zgz s B2 f u i) h .normal [(0,.string s),(2,pv B2 0),(3,iv (f:Int)),(4,.int .u64 (((u:Int) * 10)+((bAt s (i:Int):Int) - 48))),(5,iv ((i:Int)+1))] h:=
 bdF (kZ h) [yT a0,yI 9 s (i:Int),yF a1,yI 9 s (i:Int),yF a2,yF a3,.x [.v (.int .u64 ((u:Int) * 10))] fun _=>[⟨some (Value.int .u64 (IntKind.u64.wrap ((u:Int) * 10)))=some (.int .u64 ((u:Int) * 10)),jv (by omega) (by omega)⟩],yI 9 s (i:Int),yU ((bAt s (i:Int):Int) - 48),.x [.v (.int .u64 ((bAt s (i:Int):Int) - 48))] fun _=>[⟨some (Value.int .u64 (IntKind.u64.wrap ((bAt s (i:Int):Int) - 48)))=some (.int .u64 ((bAt s (i:Int):Int) - 48)),jv (by omega) (by omega)⟩],.x [.v (.int .u64 (((u:Int) * 10)+((bAt s (i:Int):Int) - 48)))] fun _=>[⟨some (Value.int .u64 (IntKind.u64.wrap (((u:Int) * 10)+((bAt s (i:Int):Int) - 48))))=some (.int .u64 (((u:Int) * 10)+((bAt s (i:Int):Int) - 48))),jv (by omega) (by omega)⟩],yW ((i:Int)+1),.z 0]
theorem zwu(_hs:s.data.toList.length < 4000)(_h0:0 < s.data.toList.length)(a0:decide ((s.data.toList.length:Int)>0)=true)(a1:(((bAt s 0:Int):Int)==45)=true)(a2:((s.data.toList.length:Int)==1)=true):Fn n 51 [.string s] h jx (pt (al h.fh 117 [iv 0,.bool false]) h.nx 117 [iv 0,.bool false]):=
 fnV (kZ h) [aS 117 [iv 0,.bool false],yT a0,yI 9 s 0,yT a1,yT a2,.w 0 117 0 jx,.r 0 117 2]
theorem zwt(_hs:s.data.toList.length < 4000)(_h0:0 < s.data.toList.length)(a0:decide ((s.data.toList.length:Int)>0)=true)(a1:(((bAt s 0:Int):Int)==45)=true)(a2:((s.data.toList.length:Int)==1)=false)(a3:decide ((s.data.toList.length:Int)>20)=true):Fn n 51 [.string s] h jx (pt (al h.fh 117 [iv 0,.bool false]) h.nx 117 [iv 0,.bool false]):=
 fnV (kZ h) [aS 117 [iv 0,.bool false],yT a0,yI 9 s 0,yT a1,yF a2,yT a3,.w 0 117 0 jx,.r 0 117 2]
theorem zws(gL:hL.get h.nx=some uJ)(_l:h.nx < hL.nx)(_hs:s.data.toList.length < 4000)(_h0:0 < s.data.toList.length)(_hu:u < 18446744073709551616)(a0:decide ((s.data.toList.length:Int)>0)=true)(a1:(((bAt s 0:Int):Int)==45)=true)(a2:((s.data.toList.length:Int)==1)=false)(a3:decide ((s.data.toList.length:Int)>20)=false)(a4:Lf n 71 [1,1,1,1,1,0,1,0,0] Tryz.f51 (zji s h) (al h.fh 117 [iv 0,.bool false]) .ret [(2,pv h.nx 0)] hL):Fn n 51 [.string s] h jx hL:=
 fnV (kZ h) [aS 117 [iv 0,.bool false],yT a0,yI 9 s 0,yT a1,yF a2,yF a3,yS a4 (kI (ko gL)),.r 0 117 2]
theorem zwr(d:BA)(u n:Nat)(N:Int)(gL:hL.get h.nx=some uJ)(_l:h.nx < hL.nx)(_hs:s.data.toList.length < 4000)(_h0:0 < s.data.toList.length)(_hu:u < 18446744073709551616)(a0:decide ((s.data.toList.length:Int)>0)=true)(a1:(((bAt s 0:Int):Int)==45)=true)(a2:((s.data.toList.length:Int)==1)=false)(a3:decide ((s.data.toList.length:Int)>20)=false)(a4:Lf n 71 [1,1,1,1,1,0,1,0,0] Tryz.f51 (zji s h) (al h.fh 117 [iv 0,.bool false]) (.exit 0) (zno s h u) hL)(a5:Pu n 76 [.int .u64 (u:Int),.bool true] (zpC N) hL):Fn n 51 [.string s] h jx (pt (pt (al hL 117 [iv 0,.bool false]) hL.nx 117 [iv N,.bool false]) h.nx 117 [iv 0,.bool false]):=
 fnV (kZ h) [aS 117 [iv 0,.bool false],yT a0,yI 9 s 0,yT a1,yF a2,yF a3,yS a4 (kI (ko gL)),bT,yP a5,aS 117 [iv 0,.bool false],.w 1 117 0 (zpC N),.l 1 4 1,.w 0 117 0 jx,.r 0 117 2]
theorem zwq(gL:hL.get h.nx=some uJ)(_l:h.nx < hL.nx)(_hs:s.data.toList.length < 4000)(_h0:0 < s.data.toList.length)(_hu:u < 18446744073709551616)(a0:decide ((s.data.toList.length:Int)>0)=true)(a1:(((bAt s 0:Int):Int)==45)=true)(a2:((s.data.toList.length:Int)==1)=false)(a3:decide ((s.data.toList.length:Int)>20)=false)(a4:Lf n 71 [1,1,1,1,1,0,1,0,0] Tryz.f51 (zji s h) (al h.fh 117 [iv 0,.bool false]) (.exit 0) (zno s h u) hL)(a5:Pu n 76 [.int .u64 (u:Int),.bool true] (yY N) hL)(a6:Pu n 42 [iv N] (.string d) (pt (al hL 117 [iv 0,.bool false]) hL.nx 117 [iv N,.bool true]))(a7:(!bqS d s)=true):Fn n 51 [.string s] h jx (pt (pt (al hL 117 [iv 0,.bool false]) hL.nx 117 [iv N,.bool true]) h.nx 117 [iv 0,.bool false]):=
 fnV (kZ h) [aS 117 [iv 0,.bool false],yT a0,yI 9 s 0,yT a1,yF a2,yF a3,yS a4 (kI (ko gL)),bT,yP a5,aS 117 [iv 0,.bool false],.w 1 117 0 (yY N),.l 1 4 1,.l 1 2 0,yP a6,yT a7,.w 0 117 0 jx,.r 0 117 2]
theorem zwp(gL:hL.get h.nx=some uJ)(_l:h.nx < hL.nx)(_hs:s.data.toList.length < 4000)(_h0:0 < s.data.toList.length)(_hu:u < 18446744073709551616)(a0:decide ((s.data.toList.length:Int)>0)=true)(a1:(((bAt s 0:Int):Int)==45)=true)(a2:((s.data.toList.length:Int)==1)=false)(a3:decide ((s.data.toList.length:Int)>20)=false)(a4:Lf n 71 [1,1,1,1,1,0,1,0,0] Tryz.f51 (zji s h) (al h.fh 117 [iv 0,.bool false]) (.exit 0) (zno s h u) hL)(a5:Pu n 76 [.int .u64 (u:Int),.bool true] (yY N) hL)(a6:Pu n 42 [iv N] (.string d) (pt (al hL 117 [iv 0,.bool false]) hL.nx 117 [iv N,.bool true]))(a7:(!bqS d s)=false):Fn n 51 [.string s] h (yY N) (pt (pt (al hL 117 [iv 0,.bool false]) hL.nx 117 [iv N,.bool true]) h.nx 117 [iv N,.bool true]):=
 fnV (kZ h) [aS 117 [iv 0,.bool false],yT a0,yI 9 s 0,yT a1,yF a2,yF a3,yS a4 (kI (ko gL)),bT,yP a5,aS 117 [iv 0,.bool false],.w 1 117 0 (yY N),.l 1 4 1,.l 1 2 0,yP a6,yF a7,.g 1 117 0 2,.w 0 117 0 (yY N),.r 0 117 2]
theorem zwo(_hs:s.data.toList.length < 4000)(_h0:0 < s.data.toList.length)(a0:decide ((s.data.toList.length:Int)>0)=true)(a1:(((bAt s 0:Int):Int)==45)=false)(a2:((s.data.toList.length:Int)==0)=false)(a3:decide ((s.data.toList.length:Int)>20)=true):Fn n 51 [.string s] h jx (pt (al h.fh 117 [iv 0,.bool false]) h.nx 117 [iv 0,.bool false]):=
 fnV (kZ h) [aS 117 [iv 0,.bool false],yT a0,yI 9 s 0,yF a1,yF a2,yT a3,.w 0 117 0 jx,.r 0 117 2]
theorem zwn(gL:hL.get h.nx=some uJ)(_l:h.nx < hL.nx)(_hs:s.data.toList.length < 4000)(_h0:0 < s.data.toList.length)(_hu:u < 18446744073709551616)(a0:decide ((s.data.toList.length:Int)>0)=true)(a1:(((bAt s 0:Int):Int)==45)=false)(a2:((s.data.toList.length:Int)==0)=false)(a3:decide ((s.data.toList.length:Int)>20)=false)(a4:Lf n 71 [1,1,1,1,1,0,1,0,0] Tryz.f51 (zjj s h) (al h.fh 117 [iv 0,.bool false]) .ret [(2,pv h.nx 0)] hL):Fn n 51 [.string s] h jx hL:=
 fnV (kZ h) [aS 117 [iv 0,.bool false],yT a0,yI 9 s 0,yF a1,yF a2,yF a3,yS a4 (kI (ko gL)),.r 0 117 2]
theorem zwm(d:BA)(u n:Nat)(N:Int)(gL:hL.get h.nx=some uJ)(_l:h.nx < hL.nx)(_hs:s.data.toList.length < 4000)(_h0:0 < s.data.toList.length)(_hu:u < 18446744073709551616)(a0:decide ((s.data.toList.length:Int)>0)=true)(a1:(((bAt s 0:Int):Int)==45)=false)(a2:((s.data.toList.length:Int)==0)=false)(a3:decide ((s.data.toList.length:Int)>20)=false)(a4:Lf n 71 [1,1,1,1,1,0,1,0,0] Tryz.f51 (zjj s h) (al h.fh 117 [iv 0,.bool false]) (.exit 0) (znn s h u) hL)(a5:Pu n 76 [.int .u64 (u:Int),.bool false] (zpC N) hL):Fn n 51 [.string s] h jx (pt (pt (al hL 117 [iv 0,.bool false]) hL.nx 117 [iv N,.bool false]) h.nx 117 [iv 0,.bool false]):=
 fnV (kZ h) [aS 117 [iv 0,.bool false],yT a0,yI 9 s 0,yF a1,yF a2,yF a3,yS a4 (kI (ko gL)),bF,yP a5,aS 117 [iv 0,.bool false],.w 1 117 0 (zpC N),.l 1 4 1,.w 0 117 0 jx,.r 0 117 2]
theorem zwl(gL:hL.get h.nx=some uJ)(_l:h.nx < hL.nx)(_hs:s.data.toList.length < 4000)(_h0:0 < s.data.toList.length)(_hu:u < 18446744073709551616)(a0:decide ((s.data.toList.length:Int)>0)=true)(a1:(((bAt s 0:Int):Int)==45)=false)(a2:((s.data.toList.length:Int)==0)=false)(a3:decide ((s.data.toList.length:Int)>20)=false)(a4:Lf n 71 [1,1,1,1,1,0,1,0,0] Tryz.f51 (zjj s h) (al h.fh 117 [iv 0,.bool false]) (.exit 0) (znn s h u) hL)(a5:Pu n 76 [.int .u64 (u:Int),.bool false] (yY N) hL)(a6:Pu n 42 [iv N] (.string d) (pt (al hL 117 [iv 0,.bool false]) hL.nx 117 [iv N,.bool true]))(a7:(!bqS d s)=true):Fn n 51 [.string s] h jx (pt (pt (al hL 117 [iv 0,.bool false]) hL.nx 117 [iv N,.bool true]) h.nx 117 [iv 0,.bool false]):=
 fnV (kZ h) [aS 117 [iv 0,.bool false],yT a0,yI 9 s 0,yF a1,yF a2,yF a3,yS a4 (kI (ko gL)),bF,yP a5,aS 117 [iv 0,.bool false],.w 1 117 0 (yY N),.l 1 4 1,.l 1 2 0,yP a6,yT a7,.w 0 117 0 jx,.r 0 117 2]
theorem zwk(gL:hL.get h.nx=some uJ)(_l:h.nx < hL.nx)(_hs:s.data.toList.length < 4000)(_h0:0 < s.data.toList.length)(_hu:u < 18446744073709551616)(a0:decide ((s.data.toList.length:Int)>0)=true)(a1:(((bAt s 0:Int):Int)==45)=false)(a2:((s.data.toList.length:Int)==0)=false)(a3:decide ((s.data.toList.length:Int)>20)=false)(a4:Lf n 71 [1,1,1,1,1,0,1,0,0] Tryz.f51 (zjj s h) (al h.fh 117 [iv 0,.bool false]) (.exit 0) (znn s h u) hL)(a5:Pu n 76 [.int .u64 (u:Int),.bool false] (yY N) hL)(a6:Pu n 42 [iv N] (.string d) (pt (al hL 117 [iv 0,.bool false]) hL.nx 117 [iv N,.bool true]))(a7:(!bqS d s)=false):Fn n 51 [.string s] h (yY N) (pt (pt (al hL 117 [iv 0,.bool false]) hL.nx 117 [iv N,.bool true]) h.nx 117 [iv N,.bool true]):=
 fnV (kZ h) [aS 117 [iv 0,.bool false],yT a0,yI 9 s 0,yF a1,yF a2,yF a3,yS a4 (kI (ko gL)),bF,yP a5,aS 117 [iv 0,.bool false],.w 1 117 0 (yY N),.l 1 4 1,.l 1 2 0,yP a6,yF a7,.g 1 117 0 2,.w 0 117 0 (yY N),.r 0 117 2]
theorem zzS(_hs:s.data.toList.length < 4000)(a0:decide ((s.data.toList.length:Int)>0)=false)(a1:((s.data.toList.length:Int)==0)=true):Fn n 51 [.string s] h jx (pt (al h.fh 117 [iv 0,.bool false]) h.nx 117 [iv 0,.bool false]):=
 fnV (kZ h) [aS 117 [iv 0,.bool false],yF a0,yT a1,.w 0 117 0 jx,.r 0 117 2]
end
theorem uI{u:Nat}(h:u < 18446744073709551616):wF .rem .u64 (u:Int) 10=some (.int .u64 ((u % 10:Nat):Int)):=by
 unfold wF
 simp only
 rw[if_neg (by omega),Int.tmod_eq_emod_of_nonneg (by omega)]
 have e:(u:Int) % 10=((u % 10:Nat):Int):=by omega
 rw[e]
theorem zde{u:Nat}(h:u < 18446744073709551616):wF .quo .u64 (u:Int) 10=some (.int .u64 ((u / 10:Nat):Int)):=by
 have e:(u:Int) / 10=((u / 10:Nat):Int):=by omega
 rw[← e]
 exact zhY (by omega) (by omega) (by omega)
theorem zeZ{d:Nat}(h:d < 10):zv ⟨#[48,49,50,51,52,53,54,55,56,57]⟩ (d:Int) ((d:Int)+1)=⟨⟨[UInt8.ofNat (48+d)]⟩⟩:=by
 have:d=0∨d=1∨d=2∨d=3∨d=4∨d=5∨d=6∨d=7∨d=8∨d=9:=by omega
 rcases this with rfl|rfl|rfl|rfl|rfl|rfl|rfl|rfl|rfl|rfl <;>rfl
abbrev DgL(n:Nat):=Loops En (RD n) 22 18446744073709551616 (sub [1,1,0,1,0,0] (zp Tryz.f67))
theorem zrF(n:Nat)(h:Heap):∀ (k u i:Nat) (d:Bsy),u < 10 ^ (k+1)→u < 18446744073709551616→i+k < 20→d.length+k≤50→
  ∃ R,R≤k+1∧DgL n [(0,.int .u64 (u:Int)),(3,.string ⟨⟨d⟩⟩),(4,iv (i:Int))] h (.exit 0) [(3,.string ⟨⟨Lib.decDigits u++d⟩⟩)] h R:=by
 intro k
 induction k with
 |zero=>
  intro u i d h1 h2 h3 h4
  have hb:=zl9 h u i n ⟨⟨d⟩⟩ h2 (by omega) (by rw[wx];omega) rfl (zw (b:=20) (by omega)) (uI h2) (uI h2) (zde h2) (eqK (k:=0) (by omega))
  rw[zeZ (Nat.mod_lt _ (by decide)),uv] at hb
  refine⟨1,by omega,.out ?_⟩
  rw[Lib.decDigits,dif_pos (by omega)]
  rw[Nat.mod_eq_of_lt (by omega)] at hb
  exact hb
 |succ k ih=>
  intro u i d h1 h2 h3 h4
  by_cases hu:u < 10
  ·have hb:=zl9 h u i n ⟨⟨d⟩⟩ h2 (by omega) (by rw[wx];omega) rfl (zw (b:=20) (by omega)) (uI h2) (uI h2) (zde h2) (eqK (k:=0) (by omega))
   rw[zeZ (Nat.mod_lt _ (by decide)),uv] at hb
   refine⟨1,by omega,.out ?_⟩
   rw[Lib.decDigits,dif_pos hu]
   rw[Nat.mod_eq_of_lt (by omega)] at hb
   exact hb
  ·have hb:=zxB h u i n ⟨⟨d⟩⟩ h2 (by omega) (by rw[wx];omega) rfl (zw (b:=20) (by omega)) (uI h2) (uI h2) (zde h2) (neK (k:=0) (by omega))
   rw[zeZ (Nat.mod_lt _ (by decide)),uv] at hb
   obtain⟨R,hR,L⟩:=ih (u / 10) (i+1) ([UInt8.ofNat (48+u % 10)]++d) (by rw[Nat.pow_succ] at h1;omega) (by omega) (by omega) (by rw[lA];simp only[lC,lN];omega)
   rw[← List.append_assoc] at L
   have e:Lib.decDigits u=Lib.decDigits (u / 10)++[UInt8.ofNat (48+u % 10)]:=by
    conv=>lhs;rw[Lib.decDigits]
    rw[dif_neg hu]
   rw[e]
   exact⟨R+1,by omega,.on hb L⟩
theorem zj6{u:Nat}(hu:u < 18446744073709551616)(h:Heap)(n:Nat)(hn:1≤n):RD n 67 [.int .u64 (u:Int)] h=some (.string ⟨⟨Lib.decDigits u⟩⟩,h):=by
 obtain⟨n,rfl⟩:=zs_ n
 obtain⟨R,hR,L⟩:=zrF n h.fh 19 u 0 [] (by omega) hu (by omega) (by simp)
 rw[List.append_nil] at L
 exact zH (zxC h _ u n _ (L.fact2 (by omega) (by kernel_rfl))) rfl
theorem zkv{a:Int}(h1: -9223372036854775808≤a)(h2:a≤9223372036854775807)(h:Heap)(n:Nat)(hn:1≤n):RD n 68 [iv a] h=some (.int .u64 ((a.natAbs:Nat):Int),h):=by
 obtain⟨n,rfl⟩:=zs_ n
 by_cases h0:a < 0
 ·have ew:IntKind.i64.wrap (0 - (a+1))= -(a+1):=by rw[zc6 (by omega) (by omega)];omega
  have e:=zyf h a n h1 h0 ew (dT h0)
  rw[ew,show -(a+1)+1=((a.natAbs:Nat):Int) by omega] at e
  exact zH e rfl
 ·have e:=zye h a n (by omega) h2 (dF h0)
  rw[show((a.natAbs:Nat):Int)=a by omega]
  exact zH e rfl
theorem uT{a:Int}(h1: -9223372036854775808≤a)(h2:a≤9223372036854775807)(h:Heap)(n:Nat)(hn:2≤n):RD n 42 [iv a] h=some (.string ⟨⟨Lib.itoa a⟩⟩,h):=by
 obtain⟨n,rfl⟩:=zs_ n
 have e1:=zkv h1 h2 h.fh n (by omega)
 have e2:=zj6 (u:=a.natAbs) (by omega) h.fh n (by omega)
 unfold Lib.itoa
 by_cases h0:a < 0
 ·rw[if_pos h0]
  have e:=zBC h a a.natAbs n _ (by rw[wx];have:=qC 19 a.natAbs (by omega);omega) (dT h0) e1 e2
  rw[show(⟨#[45]⟩++⟨⟨Lib.decDigits a.natAbs⟩⟩:BA)=⟨⟨45::Lib.decDigits a.natAbs⟩⟩ from uv [45] _] at e
  exact zH e rfl
 ·rw[if_neg h0]
  have e:=zBB h a a.natAbs n _ (dF h0) e1 e2
  rw[show a.toNat=a.natAbs by omega]
  exact zH e rfl
/-! Parse. -/
def qp(u:Nat)(b:UInt8):Option Nat:=if b.toNat < 48∨57 < b.toNat∨922337203685477580 < u then none else some (u * 10+(b.toNat - 48))
def jE:Bsy→Nat→Option Nat
 |[],u=>some u
 |b::l,u=>match qp u b with|some u'=>jE l u'|none=>none
theorem zg4(l m:Bsy):∀ u,jE (l++m) u=match jE l u with|some u'=>jE m u'|none=>none:=by
 induction l with
 |nil=>intro a;rfl
 |cons b l ih=>
  intro a
  show(match qp a b with|some a'=>jE (l++m) a'|none=>none)=match(match qp a b with|some a'=>jE l a'|none=>none) with|some a'=>jE m a'|none=>none
  cases qp a b with
  |none=>rfl
  |some a'=>exact ih a'
abbrev PlL(n:Nat):=Loops En (RD n) 71 18446744073709551616 (sub [1,1,1,1,1,0,1,0,0] (zp Tryz.f51))
theorem zhZ(l:Bsy)(hl:l.length≤20)(n f B2:Nat):∀ (rest:Bsy) (i u:Nat) (h:Heap),l.drop i=rest→i≤20→u≤9223372036854775809→h.get B2=some (.row 117 [iv 0,.bool false] 0 false)→
  ∃ hL R,R≤rest.length+1∧h.nx=hL.nx∧(∀ c,hL.get c=h.get c)∧min B2 h.wm≤hL.wm∧
   match jE rest u with
   |some u'=>u'≤9223372036854775809∧PlL n [(0,.string ⟨⟨l⟩⟩),(2,pv B2 0),(3,iv (f:Int)),(4,.int .u64 (u:Int)),(5,iv (i:Int))] h (.exit 0) [(0,.string ⟨⟨l⟩⟩),(2,pv B2 0),(3,iv (f:Int)),(4,.int .u64 ((u':Nat):Int))] hL R
   |none=>PlL n [(0,.string ⟨⟨l⟩⟩),(2,pv B2 0),(3,iv (f:Int)),(4,.int .u64 (u:Int)),(5,iv (i:Int))] h .ret [(2,pv B2 0)] hL R:=by
 intro rest
 induction rest with
 |nil=>
  intro i u h hr hi hu g2
  have:l.length≤i:=List.drop_eq_nil_iff.1 hr
  exact⟨h,1,by simp,rfl,fun _=>rfl,Nat.min_le_right _ _,hu,.out (ztz h ⟨⟨l⟩⟩ f u i B2 n g2 hu (by omega) (by show l.length < 4000;omega) (zE (a:=i) (b:=l.length) (by omega)))⟩
 |cons b rest ih=>
  intro i u h hr hi hu g2
  have hlt:i < l.length:=by
   rcases Nat.lt_or_ge i l.length with h1|h1
   ·exact h1
   ·rw[List.drop_eq_nil_of_le h1] at hr;cases hr
  have hbe:bAt ⟨⟨l⟩⟩ (i:Int)=b.toNat:=by
   have:=congrArg List.head? hr
   rw[List.head?_drop] at this
   unfold bAt
   simp[this]
  have hlb:decide ((i:Int) < (l.length:Nat))=true:=zw hlt
  have h2l:=za g2
  have ret:∀ {x:Unit},qp u b=none→wC En (RD n) 71 18446744073709551616 (sub [1,1,1,1,1,0,1,0,0] (zp Tryz.f51)) [(0,.string ⟨⟨l⟩⟩),(2,pv B2 0),(3,iv (f:Int)),(4,.int .u64 (u:Int)),(5,iv (i:Int))] h .ret [(2,pv B2 0)] (pt h B2 117 [iv 0,.bool false])→
    ∃ hL R,R≤(b::rest).length+1∧h.nx=hL.nx∧(∀ c,hL.get c=h.get c)∧min B2 h.wm≤hL.wm∧
     match jE (b::rest) u with
     |some u'=>u'≤9223372036854775809∧PlL n [(0,.string ⟨⟨l⟩⟩),(2,pv B2 0),(3,iv (f:Int)),(4,.int .u64 (u:Int)),(5,iv (i:Int))] h (.exit 0) [(0,.string ⟨⟨l⟩⟩),(2,pv B2 0),(3,iv (f:Int)),(4,.int .u64 ((u':Nat):Int))] hL R
     |none=>PlL n [(0,.string ⟨⟨l⟩⟩),(2,pv B2 0),(3,iv (f:Int)),(4,.int .u64 (u:Int)),(5,iv (i:Int))] h .ret [(2,pv B2 0)] hL R:=by
   intro _ hn hb
   have e:jE (b::rest) u=none:=by
    show(match qp u b with|some a'=>jE rest a'|none=>none)=none
    rw[hn]
   rw[e]
   refine⟨pt h B2 117 [iv 0,.bool false],1,by simp,rfl,fun c=>?_,by rw[ze];omega,.ret hb⟩
   by_cases hc:c=B2
   ·rw[hc,g2];exact zi _ _ _ h2l
   ·exact zf _ _ _ _ h2l hc
  by_cases h48:b.toNat < 48
  ·exact ret (x:=()) (by unfold qp;rw[if_pos (.inl h48)]) (zwB h ⟨⟨l⟩⟩ f u i B2 n g2 hu (by omega) (by show l.length < 4000;omega) hlt hlb (dT (by rw[hbe];omega)))
  by_cases h57:57 < b.toNat
  ·exact ret (x:=()) (by unfold qp;rw[if_pos (.inr (.inl h57))]) (zwA h ⟨⟨l⟩⟩ f u i B2 n g2 hu (by omega) (by show l.length < 4000;omega) hlt hlb (dF (by rw[hbe];omega)) (dT (by rw[hbe];omega)))
  by_cases hu2:922337203685477580 < u
  ·exact ret (x:=()) (by unfold qp;rw[if_pos (.inr (.inr hu2))]) (zwz h ⟨⟨l⟩⟩ f u i B2 n g2 hu (by omega) (by show l.length < 4000;omega) hlt hlb (dF (by rw[hbe];omega)) (dF (by rw[hbe];omega)) (dT (by omega)))
  have hb:=zwx h ⟨⟨l⟩⟩ f u i B2 n g2 hu (by omega) (by show l.length < 4000;omega) hlt (by omega) (by rw[hbe];omega) (by rw[hbe];omega) hlb (dF (by rw[hbe];omega)) (dF (by rw[hbe];omega)) (dF (by omega))
  rw[hbe,show((u:Int) * 10)+(((b.toNat:Nat):Int) - 48)=((u * 10+(b.toNat - 48):Nat):Int) by omega] at hb
  have hlb2:=b.toNat_lt
  obtain⟨hL,R,hR,nL,gL,wL,M⟩:=ih (i+1) (u * 10+(b.toNat - 48)) h (by rw[← List.drop_drop,hr];rfl) (by omega) (by omega) g2
  have e:jE (b::rest) u=jE rest (u * 10+(b.toNat - 48)):=by
   show(match qp u b with|some a'=>jE rest a'|none=>none)=_
   have:qp u b=some (u * 10+(b.toNat - 48)):=by unfold qp;rw[if_neg (by omega)]
   rw[this]
  rw[e]
  refine⟨hL,R+1,by rw[lC];omega,nL,gL,wL,?_⟩
  split at M
  next=>exact⟨M.1,.on hb M.2⟩
  next=>exact .on hb M
variable (h hL:Heap) (s:BA) (r:Int) (e d:BA) (N:Int) (c B2 n:Nat)
theorem zBI(_h1:1≤c)(_h2:c≤50)(_ll:(⟨#[65,66,67,68,69,70,71,72,73,74,75,76,77,78,79,80,81,82,83,84,85,86,87,88,89,90]⟩:BA).data.toList.length=26)(_h3:c≤26)(a0:decide ((c:Int)≤26)=true):Fn n 41 [iv (c:Int)] h (.string (zv ⟨#[65,66,67,68,69,70,71,72,73,74,75,76,77,78,79,80,81,82,83,84,85,86,87,88,89,90]⟩ ((c:Int) - 1) (c:Int))) h.fh:=
 fnV (kZ h) [yT a0,yW ((c:Int) - 1),cB 9 ⟨#[65,66,67,68,69,70,71,72,73,74,75,76,77,78,79,80,81,82,83,84,85,86,87,88,89,90]⟩ ((c:Int) - 1) (c:Int),.z 0]
theorem zBH(_h1:1≤c)(_h2:c≤50)(_ll:(⟨#[65,66,67,68,69,70,71,72,73,74,75,76,77,78,79,80,81,82,83,84,85,86,87,88,89,90]⟩:BA).data.toList.length=26)(_h3:26 < c)(a0:decide ((c:Int)≤26)=false):Fn n 41 [iv (c:Int)] h (.string (⟨#[65]⟩++(zv ⟨#[65,66,67,68,69,70,71,72,73,74,75,76,77,78,79,80,81,82,83,84,85,86,87,88,89,90]⟩ ((c:Int) - 27) ((c:Int) - 26)))) h.fh:=
 fnV (kZ h) [yF a0,yW ((c:Int) - 27),yW ((c:Int) - 26),cB 9 ⟨#[65,66,67,68,69,70,71,72,73,74,75,76,77,78,79,80,81,82,83,84,85,86,87,88,89,90]⟩ ((c:Int) - 27) ((c:Int) - 26),.x [.v (.string (⟨#[65]⟩++(zv ⟨#[65,66,67,68,69,70,71,72,73,74,75,76,77,78,79,80,81,82,83,84,85,86,87,88,89,90]⟩ ((c:Int) - 27) ((c:Int) - 26))))] fun _=>[⟨jn .add ⟨#[65]⟩ (zv ⟨#[65,66,67,68,69,70,71,72,73,74,75,76,77,78,79,80,81,82,83,84,85,86,87,88,89,90]⟩ ((c:Int) - 27) ((c:Int) - 26))=some (.string (⟨#[65]⟩++(zv ⟨#[65,66,67,68,69,70,71,72,73,74,75,76,77,78,79,80,81,82,83,84,85,86,87,88,89,90]⟩ ((c:Int) - 27) ((c:Int) - 26)))),jV (by have _q:=ze1 ⟨#[65,66,67,68,69,70,71,72,73,74,75,76,77,78,79,80,81,82,83,84,85,86,87,88,89,90]⟩ ((c:Int) - 27) ((c:Int) - 26) (Nat.le_of_eq _ll);show 1+_≤9223372036854775807;omega)⟩],.z 0]
theorem zAh(e d:BA)(_he:e.size≤100)(_hd:d.size≤100)(a0:Pu n 21 [.agg #[iv r,iv (c:Int)]] (.bool true) (al h.fh 29 [iv r,iv (c:Int)]))(a1:Pu n 41 [iv (c:Int)] (.string e) (al h.fh 29 [iv r,iv (c:Int)]))(a2:Pu n 42 [iv r] (.string d) (al h.fh 29 [iv r,iv (c:Int)])):Fn n 23 [.agg #[iv r,iv (c:Int)]] h (.string (e++d)) (al h.fh 29 [iv r,iv (c:Int)]):=
 fnV (kZ h) [aS 29 [iv r,iv (c:Int)],.g 0 29 0 2,yP a0,.l 0 3 1,yP a1,.l 0 3 0,yP a2,.x [.v (.string (e++d))] fun _=>[⟨jn .add e d=some (.string (e++d)),jV (by omega)⟩],yN (h.nx+1),.q (.l 0 3 1),.q (.l 0 3 0),.q (.l 0 3 0),.z 0]
theorem zum(_hc:c≤51)(a0:decide ((c:Int)≤50)=false):Bd n 50 [1,0,1,0,0] Tryz.f30 [(0,.string s),(2,pv B2 0),(3,iv (c:Int))] h (.exit 0) [(2,pv B2 0)] h:=
 bdF (kZ h) [yF a0,.z 0]
theorem zoD(_hc:c≤51)(a0:decide ((c:Int)≤50)=true)(a1:Pu n 41 [iv (c:Int)] (.string e) h)(a2:decide ((s.data.toList.length:Int)≤e.data.toList.length)=true):Bd n 50 [1,0,1,0,0] Tryz.f30 [(0,.string s),(2,pv B2 0),(3,iv (c:Int))] h .normal [(0,.string s),(2,pv B2 0),(3,iv ((c:Int)+1))] h:=
 bdF (kZ h) [yT a0,yP a1,yT a2,yW ((c:Int)+1),.z 0]
theorem zxq(_hc:c≤51)(_hl:e.data.toList.length < s.data.toList.length)(a0:decide ((c:Int)≤50)=true)(a1:Pu n 41 [iv (c:Int)] (.string e) h)(a2:decide ((s.data.toList.length:Int)≤e.data.toList.length)=false)(a3:(!bqS (zv s 0 e.data.toList.length) e)=true):Bd n 50 [1,0,1,0,0] Tryz.f30 [(0,.string s),(2,pv B2 0),(3,iv (c:Int))] h .normal [(0,.string s),(2,pv B2 0),(3,iv ((c:Int)+1))] h:=
 bdF (kZ h) [yT a0,yP a1,yF a2,cH 9 s e.data.toList.length,yT a3,yW ((c:Int)+1),.z 0]
theorem zun(_hc:c≤51)(_hl:e.data.toList.length < s.data.toList.length)(a0:decide ((c:Int)≤50)=true)(a1:Pu n 41 [iv (c:Int)] (.string e) h)(a2:decide ((s.data.toList.length:Int)≤e.data.toList.length)=false)(a3:(!bqS (zv s 0 e.data.toList.length) e)=false)(a4:Pu n 51 [.string (zv s e.data.toList.length s.data.toList.length)] (.agg #[iv N,.bool false]) h):Bd n 50 [1,0,1,0,0] Tryz.f30 [(0,.string s),(2,pv B2 0),(3,iv (c:Int))] h .normal [(0,.string s),(2,pv B2 0),(3,iv ((c:Int)+1))] (pt (al (pt (al h 117 [iv 0,.bool false]) h.nx 117 [iv N,.bool false]) 29 [iv 0,iv 0]) (h.nx+1) 29 [iv N,iv (c:Int)]):=
 bdF (kZ h) [yT a0,yP a1,yF a2,cH 9 s e.data.toList.length,yF a3,cL 9 s e.data.toList.length,yP a4,aS 117 [iv 0,.bool false],.w 0 117 0 (.agg #[iv N,.bool false]),.l 0 2 0,aS 29 [iv 0,iv 0],.w 1 29 0 (.agg #[iv N,iv (c:Int)]),.l 0 4 1,yW ((c:Int)+1),.z 0]
theorem zxp(_hc:c≤51)(_hl:e.data.toList.length < s.data.toList.length)(a0:decide ((c:Int)≤50)=true)(a1:Pu n 41 [iv (c:Int)] (.string e) h)(a2:decide ((s.data.toList.length:Int)≤e.data.toList.length)=false)(a3:(!bqS (zv s 0 e.data.toList.length) e)=false)(a4:Pu n 51 [.string (zv s e.data.toList.length s.data.toList.length)] (.agg #[iv N,.bool true]) h)(a5:Pu n 21 [.agg #[iv N,iv (c:Int)]] (.bool false) (pt (al (pt (al h 117 [iv 0,.bool false]) h.nx 117 [iv N,.bool true]) 29 [iv 0,iv 0]) (h.nx+1) 29 [iv N,iv (c:Int)])):Bd n 50 [1,0,1,0,0] Tryz.f30 [(0,.string s),(2,pv B2 0),(3,iv (c:Int))] h .normal [(0,.string s),(2,pv B2 0),(3,iv ((c:Int)+1))] (pt (al (pt (al h 117 [iv 0,.bool false]) h.nx 117 [iv N,.bool true]) 29 [iv 0,iv 0]) (h.nx+1) 29 [iv N,iv (c:Int)]):=
 bdF (kZ h) [yT a0,yP a1,yF a2,cH 9 s e.data.toList.length,yF a3,cL 9 s e.data.toList.length,yP a4,aS 117 [iv 0,.bool false],.w 0 117 0 (.agg #[iv N,.bool true]),.l 0 2 0,aS 29 [iv 0,iv 0],.w 1 29 0 (.agg #[iv N,iv (c:Int)]),.l 0 4 1,.g 1 29 0 2,yP a5,yW ((c:Int)+1),.z 0]
theorem zxo(_hc:c≤51)(_hl:e.data.toList.length < s.data.toList.length)(a0:decide ((c:Int)≤50)=true)(a1:Pu n 41 [iv (c:Int)] (.string e) h)(a2:decide ((s.data.toList.length:Int)≤e.data.toList.length)=false)(a3:(!bqS (zv s 0 e.data.toList.length) e)=false)(a4:Pu n 51 [.string (zv s e.data.toList.length s.data.toList.length)] (.agg #[iv N,.bool true]) h)(a5:Pu n 21 [.agg #[iv N,iv (c:Int)]] (.bool true) (pt (al (pt (al h 117 [iv 0,.bool false]) h.nx 117 [iv N,.bool true]) 29 [iv 0,iv 0]) (h.nx+1) 29 [iv N,iv (c:Int)]))(a6:Pu n 23 [.agg #[iv N,iv (c:Int)]] (.string d) (pt (al (pt (al h 117 [iv 0,.bool false]) h.nx 117 [iv N,.bool true]) 29 [iv 0,iv 0]) (h.nx+1) 29 [iv N,iv (c:Int)]))(a7:bqS d s=false):Bd n 50 [1,0,1,0,0] Tryz.f30 [(0,.string s),(2,pv B2 0),(3,iv (c:Int))] h .normal [(0,.string s),(2,pv B2 0),(3,iv ((c:Int)+1))] (pt (al (pt (al h 117 [iv 0,.bool false]) h.nx 117 [iv N,.bool true]) 29 [iv 0,iv 0]) (h.nx+1) 29 [iv N,iv (c:Int)]):=
 bdF (kZ h) [yT a0,yP a1,yF a2,cH 9 s e.data.toList.length,yF a3,cL 9 s e.data.toList.length,yP a4,aS 117 [iv 0,.bool false],.w 0 117 0 (.agg #[iv N,.bool true]),.l 0 2 0,aS 29 [iv 0,iv 0],.w 1 29 0 (.agg #[iv N,iv (c:Int)]),.l 0 4 1,.g 1 29 0 2,yP a5,.g 1 29 0 2,yP a6,yF a7,yW ((c:Int)+1),.z 0]
theorem zul(_hc:c≤51)(_hl:e.data.toList.length < s.data.toList.length)(_b2:B2 < h.nx)(g2:h.get B2=some (.row 78 [iv 0,iv 0,.bool false] 0 false))(a0:decide ((c:Int)≤50)=true)(a1:Pu n 41 [iv (c:Int)] (.string e) h)(a2:decide ((s.data.toList.length:Int)≤e.data.toList.length)=false)(a3:(!bqS (zv s 0 e.data.toList.length) e)=false)(a4:Pu n 51 [.string (zv s e.data.toList.length s.data.toList.length)] (.agg #[iv N,.bool true]) h)(a5:Pu n 21 [.agg #[iv N,iv (c:Int)]] (.bool true) (pt (al (pt (al h 117 [iv 0,.bool false]) h.nx 117 [iv N,.bool true]) 29 [iv 0,iv 0]) (h.nx+1) 29 [iv N,iv (c:Int)]))(a6:Pu n 23 [.agg #[iv N,iv (c:Int)]] (.string d) (pt (al (pt (al h 117 [iv 0,.bool false]) h.nx 117 [iv N,.bool true]) 29 [iv 0,iv 0]) (h.nx+1) 29 [iv N,iv (c:Int)]))(a7:bqS d s=true):Bd n 50 [1,0,1,0,0] Tryz.f30 [(0,.string s),(2,pv B2 0),(3,iv (c:Int))] h .ret [(2,pv B2 0)] (pt (pt (al (pt (al h 117 [iv 0,.bool false]) h.nx 117 [iv N,.bool true]) 29 [iv 0,iv 0]) (h.nx+1) 29 [iv N,iv (c:Int)]) B2 78 [iv N,iv (c:Int),.bool true]):=
 bdF (kI (ko g2)) [yT a0,yP a1,yF a2,cH 9 s e.data.toList.length,yF a3,cL 9 s e.data.toList.length,yP a4,aS 117 [iv 0,.bool false],.w 1 117 0 (.agg #[iv N,.bool true]),.l 1 2 0,aS 29 [iv 0,iv 0],.w 2 29 0 (.agg #[iv N,iv (c:Int)]),.l 1 4 1,.g 2 29 0 2,yP a5,.g 2 29 0 2,yP a6,yT a7,.g 2 29 0 2,.w 0 78 0 (.agg #[iv N,iv (c:Int),.bool true]),.z 0]
theorem zuj(c:Int)(n:Nat)(gL:hL.get h.nx=some (.row 78 [iv r,iv c,.bool true] 0 false))(a0:Lf n 50 [1,0,1,0,0] Tryz.f30 [(0,.string s),(2,pv h.nx 0),(3,iv 1)] (al h.fh 78 [iv 0,iv 0,.bool false]) .ret [(2,pv h.nx 0)] hL):Fn n 30 [.string s] h (.agg #[iv r,iv c,.bool true]) hL:=
 fnV (kZ h) [aS 78 [iv 0,iv 0,.bool false],yS a0 (kI (ko gL)),.r 0 78 3]
theorem zxk(gL:hL.get h.nx=some (.row 78 [iv 0,iv 0,.bool false] 0 false))(_l:h.nx < hL.nx)(a0:Lf n 50 [1,0,1,0,0] Tryz.f30 [(0,.string s),(2,pv h.nx 0),(3,iv 1)] (al h.fh 78 [iv 0,iv 0,.bool false]) (.exit 0) [(2,pv h.nx 0)] hL):Fn n 30 [.string s] h (.agg #[iv 0,iv 0,.bool false]) (pt hL h.nx 78 [iv 0,iv 0,.bool false]):=
 fnV (kZ h) [aS 78 [iv 0,iv 0,.bool false],yS a0 (kI (ko gL)),.w 0 78 0 (.agg #[iv 0,iv 0,.bool false]),.r 0 78 3]
end Go.PanE
