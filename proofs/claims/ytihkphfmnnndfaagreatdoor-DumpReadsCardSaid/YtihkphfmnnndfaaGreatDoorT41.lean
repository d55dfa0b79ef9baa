/-
 Part 41 of the proof of Rows.DumpReadsCardSaid: The reference's numbers and names: paths printed by sx.py (m26.py).
 The reference's numbers: their laws.
 No conditions.
-/
import Derived.Test.YtihkphfmnnndfaaGreatDoorT40
namespace Go.PanE
open Go.Proofs
theorem wh_n(h:Heap)(a:Int)(n:Nat)(_h1: -9223372036854775808≤a)(_h2:a < 0)(_e:IntKind.i64.wrap (0 - (a+1))= -(a+1))(a0:decide ((a:Int) < 0)=true):Fn n 68 [iv a] h (.int .u64 ((IntKind.i64.wrap (0 - (a+1)))+1)) h.fresh:=
 fnV (kZ h) [yT a0,yW (a+1),.x [.v (.int .u64 (IntKind.i64.wrap (0 - (a+1))))] fun _=>[⟨some (Value.int .u64 (IntKind.u64.wrap (IntKind.i64.wrap (0 - (a+1)))))=some (.int .u64 (IntKind.i64.wrap (0 - (a+1)))),add_u64 (by omega) (by omega)⟩],.x [.v (.int .u64 ((IntKind.i64.wrap (0 - (a+1)))+1))] fun _=>[⟨some (Value.int .u64 (IntKind.u64.wrap ((IntKind.i64.wrap (0 - (a+1)))+1)))=some (.int .u64 ((IntKind.i64.wrap (0 - (a+1)))+1)),add_u64 (by omega) (by omega)⟩],.z 0]
theorem wh_p(h:Heap)(a:Int)(n:Nat)(_h1:0≤a)(_h2:a≤9223372036854775807)(a0:decide ((a:Int) < 0)=false):Fn n 68 [iv a] h (.int .u64 a) h.fresh:=
 fnV (kZ h) [yF a0,.x [.v (.int .u64 a)] fun _=>[⟨some (Value.int .u64 (IntKind.u64.wrap a))=some (.int .u64 a),add_u64 (by omega) (by omega)⟩],.z 0]
theorem dg_on(h:Heap)(u i n:Nat)(d:ByteArray)(_hu:u < 18446744073709551616)(_hi:i < 20)(_hd:d.size≤100)(_ld:(⟨#[48,49,50,51,52,53,54,55,56,57]⟩:ByteArray).data.toList.length=10)(a0:decide (((i:Int):Int) < 20)=true)(a1:intBin .rem .u64 (u:Int) 10=some (.int .u64 ((u % 10:Nat):Int)))(a2:intBin .rem .u64 (u:Int) 10=some (.int .u64 ((u % 10:Nat):Int)))(a3:intBin .quo .u64 (u:Int) 10=some (.int .u64 ((u / 10:Nat):Int)))(a4:((((u / 10:Nat):Int):Int)==0)=false):Bd n 22 [1,1,0,1,0,0] Tryz.f67 [(0,.int .u64 (u:Int)),(3,.string d),(4,iv (i:Int))] h .normal [(0,.int .u64 ((u / 10:Nat):Int)),(3,.string ((cutS ⟨#[48,49,50,51,52,53,54,55,56,57]⟩ ((u % 10:Nat):Int) (((u % 10:Nat):Int)+1))++d)),(4,iv ((i:Int)+1))] h:=
 bdF (kZ h) [yT a0,yE a1,yE a2,.x [.v (.int .u64 (((u % 10:Nat):Int)+1))] fun _=>[⟨some (Value.int .u64 (IntKind.u64.wrap (((u % 10:Nat):Int)+1)))=some (.int .u64 (((u % 10:Nat):Int)+1)),add_u64 (by omega) (by omega)⟩],cB 9 ⟨#[48,49,50,51,52,53,54,55,56,57]⟩ ((u % 10:Nat):Int) (((u % 10:Nat):Int)+1),.x [.v (.string ((cutS ⟨#[48,49,50,51,52,53,54,55,56,57]⟩ ((u % 10:Nat):Int) (((u % 10:Nat):Int)+1))++d))] fun _=>[⟨strBin .add (cutS ⟨#[48,49,50,51,52,53,54,55,56,57]⟩ ((u % 10:Nat):Int) (((u % 10:Nat):Int)+1)) d=some (.string ((cutS ⟨#[48,49,50,51,52,53,54,55,56,57]⟩ ((u % 10:Nat):Int) (((u % 10:Nat):Int)+1))++d)),str_add (by have _q:(cutS ⟨#[48,49,50,51,52,53,54,55,56,57]⟩ ((u % 10:Nat):Int) (((u % 10:Nat):Int)+1)).size≤10:=cutS_le _ _ _ (Nat.le_of_eq _ld);omega)⟩],yE a3,yF a4,yW ((i:Int)+1),.z 0]
theorem dg_end(h:Heap)(u i n:Nat)(d:ByteArray)(_hu:u < 18446744073709551616)(_hi:i < 20)(_hd:d.size≤100)(_ld:(⟨#[48,49,50,51,52,53,54,55,56,57]⟩:ByteArray).data.toList.length=10)(a0:decide (((i:Int):Int) < 20)=true)(a1:intBin .rem .u64 (u:Int) 10=some (.int .u64 ((u % 10:Nat):Int)))(a2:intBin .rem .u64 (u:Int) 10=some (.int .u64 ((u % 10:Nat):Int)))(a3:intBin .quo .u64 (u:Int) 10=some (.int .u64 ((u / 10:Nat):Int)))(a4:((((u / 10:Nat):Int):Int)==0)=true):Bd n 22 [1,1,0,1,0,0] Tryz.f67 [(0,.int .u64 (u:Int)),(3,.string d),(4,iv (i:Int))] h (.exit 0) [(3,.string ((cutS ⟨#[48,49,50,51,52,53,54,55,56,57]⟩ ((u % 10:Nat):Int) (((u % 10:Nat):Int)+1))++d))] h:=
 bdF (kZ h) [yT a0,yE a1,yE a2,.x [.v (.int .u64 (((u % 10:Nat):Int)+1))] fun _=>[⟨some (Value.int .u64 (IntKind.u64.wrap (((u % 10:Nat):Int)+1)))=some (.int .u64 (((u % 10:Nat):Int)+1)),add_u64 (by omega) (by omega)⟩],cB 9 ⟨#[48,49,50,51,52,53,54,55,56,57]⟩ ((u % 10:Nat):Int) (((u % 10:Nat):Int)+1),.x [.v (.string ((cutS ⟨#[48,49,50,51,52,53,54,55,56,57]⟩ ((u % 10:Nat):Int) (((u % 10:Nat):Int)+1))++d))] fun _=>[⟨strBin .add (cutS ⟨#[48,49,50,51,52,53,54,55,56,57]⟩ ((u % 10:Nat):Int) (((u % 10:Nat):Int)+1)) d=some (.string ((cutS ⟨#[48,49,50,51,52,53,54,55,56,57]⟩ ((u % 10:Nat):Int) (((u % 10:Nat):Int)+1))++d)),str_add (by have _q:(cutS ⟨#[48,49,50,51,52,53,54,55,56,57]⟩ ((u % 10:Nat):Int) (((u % 10:Nat):Int)+1)).size≤10:=cutS_le _ _ _ (Nat.le_of_eq _ld);omega)⟩],yE a3,yT a4,.z 0]
theorem dg_fn(h hL:Heap)(u n:Nat)(d:ByteArray)(a0:Lf n 22 [1,1,0,1,0,0] Tryz.f67 [(0,.int .u64 (u:Int)),(2,.string ⟨#[]⟩),(3,.string ⟨#[]⟩),(4,iv 0)] h.fresh (.exit 0) [(3,.string d)] hL):Fn n 67 [.int .u64 (u:Int)] h (.string d) hL:=
 fnV (kZ h) [yS a0 (kZ hL),.z 0]
theorem de_p(h:Heap)(a:Int)(w n:Nat)(d:ByteArray)(a0:decide ((a:Int) < 0)=false)(a1:Pu n 68 [iv a] (.int .u64 (w:Int)) h.fresh)(a2:Pu n 67 [.int .u64 (w:Int)] (.string d) h.fresh):Fn n 42 [iv a] h (.string d) h.fresh:=
 fnV (kZ h) [yF a0,yP a1,yP a2,.z 0]
theorem de_n(h:Heap)(a:Int)(w n:Nat)(d:ByteArray)(_hd:d.size≤100)(a0:decide ((a:Int) < 0)=true)(a1:Pu n 68 [iv a] (.int .u64 (w:Int)) h.fresh)(a2:Pu n 67 [.int .u64 (w:Int)] (.string d) h.fresh):Fn n 42 [iv a] h (.string (⟨#[45]⟩++d)) h.fresh:=
 fnV (kZ h) [yT a0,yP a1,yP a2,.x [.v (.string (⟨#[45]⟩++d))] fun _=>[⟨strBin .add ⟨#[45]⟩ d=some (.string (⟨#[45]⟩++d)),str_add (by show 1+d.size≤9223372036854775807;omega)⟩],.z 0]
theorem si_min(h:Heap)(u n:Nat)(_hu:u < 18446744073709551616)(a0:(((u:Int):Int)==9223372036854775808)=true):Fn n 76 [.int .u64 (u:Int),.bool true] h (.agg #[iv (-9223372036854775808),.bool true]) (pt (al h.fresh 117 [iv 0,.bool false]) h.nx 117 [iv (-9223372036854775808),.bool true]):=
 fnV (kZ h) [aS 117 [iv 0,.bool false],yT a0,.w 0 117 0 (.agg #[iv (-9223372036854775808),.bool true]),.r 0 117 2]
theorem si_mb(h:Heap)(u n:Nat)(_hu:u < 18446744073709551616)(a0:(((u:Int):Int)==9223372036854775808)=false)(a1:decide (((u:Int):Int)≥9223372036854775808)=true):Fn n 76 [.int .u64 (u:Int),.bool true] h (.agg #[iv 0,.bool false]) (pt (al h.fresh 117 [iv 0,.bool false]) h.nx 117 [iv 0,.bool false]):=
 fnV (kZ h) [aS 117 [iv 0,.bool false],yF a0,yT a1,.w 0 117 0 (.agg #[iv 0,.bool false]),.r 0 117 2]
theorem si_pb(h:Heap)(u n:Nat)(_hu:u < 18446744073709551616)(a0:decide (((u:Int):Int)≥9223372036854775808)=true):Fn n 76 [.int .u64 (u:Int),.bool false] h (.agg #[iv 0,.bool false]) (pt (al h.fresh 117 [iv 0,.bool false]) h.nx 117 [iv 0,.bool false]):=
 fnV (kZ h) [aS 117 [iv 0,.bool false],yT a0,.w 0 117 0 (.agg #[iv 0,.bool false]),.r 0 117 2]
theorem si_neg(h:Heap)(u n:Nat)(_hu:u < 9223372036854775808)(a0:(((u:Int):Int)==9223372036854775808)=false)(a1:decide (((u:Int):Int)≥9223372036854775808)=false):Fn n 76 [.int .u64 (u:Int),.bool true] h (.agg #[iv (IntKind.i64.wrap (0 - (u:Int))),.bool true]) (pt (al h.fresh 117 [iv 0,.bool false]) h.nx 117 [iv (IntKind.i64.wrap (0 - (u:Int))),.bool true]):=
 fnV (kZ h) [aS 117 [iv 0,.bool false],yF a0,yF a1,yW (u:Int),.w 0 117 0 (.agg #[iv (IntKind.i64.wrap (0 - (u:Int))),.bool true]),.r 0 117 2]
theorem si_pos(h:Heap)(u n:Nat)(_hu:u < 9223372036854775808)(a0:decide (((u:Int):Int)≥9223372036854775808)=false):Fn n 76 [.int .u64 (u:Int),.bool false] h (.agg #[iv (u:Int),.bool true]) (pt (al h.fresh 117 [iv 0,.bool false]) h.nx 117 [iv (u:Int),.bool true]):=
 fnV (kZ h) [aS 117 [iv 0,.bool false],yF a0,yW (u:Int),.w 0 117 0 (.agg #[iv (u:Int),.bool true]),.r 0 117 2]
theorem pl_out(h:Heap)(s:ByteArray)(f u i B2 n:Nat)(g2:h.get B2=some (.row 117 [iv 0,.bool false] 0 false))(_hu:u≤9223372036854775809)(_hi:i < 4000)(_hs:s.data.toList.length < 4000)(a0:decide (((i:Int):Int) < s.data.toList.length)=false):Bd n 71 [1,1,1,1,1,0,1,0,0] Tryz.f51 [(0,.string s),(2,pv B2 0),(3,iv (f:Int)),(4,.int .u64 (u:Int)),(5,iv (i:Int))] h (.exit 0) [(0,.string s),(2,pv B2 0),(3,iv (f:Int)),(4,.int .u64 (u:Int))] h:=
 bdF (kZ h) [yF a0,.z 0]
theorem pl_b1(h:Heap)(s:ByteArray)(f u i B2 n:Nat)(g2:h.get B2=some (.row 117 [iv 0,.bool false] 0 false))(_hu:u≤9223372036854775809)(_hi:i < 4000)(_hs:s.data.toList.length < 4000)(_hl:i < s.data.toList.length)(a0:decide (((i:Int):Int) < s.data.toList.length)=true)(a1:decide (((bAt s (i:Int):Int):Int) < 48)=true):Bd n 71 [1,1,1,1,1,0,1,0,0] Tryz.f51 [(0,.string s),(2,pv B2 0),(3,iv (f:Int)),(4,.int .u64 (u:Int)),(5,iv (i:Int))] h .ret [(2,pv B2 0)] (pt h B2 117 [iv 0,.bool false]):=
 bdF (kI (ko g2)) [yT a0,yI 9 s (i:Int),yT a1,.w 0 117 0 (.agg #[iv 0,.bool false]),.z 0]
theorem pl_b2(h:Heap)(s:ByteArray)(f u i B2 n:Nat)(g2:h.get B2=some (.row 117 [iv 0,.bool false] 0 false))(_hu:u≤9223372036854775809)(_hi:i < 4000)(_hs:s.data.toList.length < 4000)(_hl:i < s.data.toList.length)(a0:decide (((i:Int):Int) < s.data.toList.length)=true)(a1:decide (((bAt s (i:Int):Int):Int) < 48)=false)(a2:decide (((bAt s (i:Int):Int):Int)>57)=true):Bd n 71 [1,1,1,1,1,0,1,0,0] Tryz.f51 [(0,.string s),(2,pv B2 0),(3,iv (f:Int)),(4,.int .u64 (u:Int)),(5,iv (i:Int))] h .ret [(2,pv B2 0)] (pt h B2 117 [iv 0,.bool false]):=
 bdF (kI (ko g2)) [yT a0,yI 9 s (i:Int),yF a1,yI 9 s (i:Int),yT a2,.w 0 117 0 (.agg #[iv 0,.bool false]),.z 0]
theorem pl_b3(h:Heap)(s:ByteArray)(f u i B2 n:Nat)(g2:h.get B2=some (.row 117 [iv 0,.bool false] 0 false))(_hu:u≤9223372036854775809)(_hi:i < 4000)(_hs:s.data.toList.length < 4000)(_hl:i < s.data.toList.length)(a0:decide (((i:Int):Int) < s.data.toList.length)=true)(a1:decide (((bAt s (i:Int):Int):Int) < 48)=false)(a2:decide (((bAt s (i:Int):Int):Int)>57)=false)(a3:decide (((u:Int):Int)>922337203685477580)=true):Bd n 71 [1,1,1,1,1,0,1,0,0] Tryz.f51 [(0,.string s),(2,pv B2 0),(3,iv (f:Int)),(4,.int .u64 (u:Int)),(5,iv (i:Int))] h .ret [(2,pv B2 0)] (pt h B2 117 [iv 0,.bool false]):=
 bdF (kI (ko g2)) [yT a0,yI 9 s (i:Int),yF a1,yI 9 s (i:Int),yF a2,yT a3,.w 0 117 0 (.agg #[iv 0,.bool false]),.z 0]
theorem pl_on(h:Heap)(s:ByteArray)(f u i B2 n:Nat)(g2:h.get B2=some (.row 117 [iv 0,.bool false] 0 false))(_hu:u≤9223372036854775809)(_hi:i < 4000)(_hs:s.data.toList.length < 4000)(_hl:i < s.data.toList.length)(_hu2:u≤922337203685477580)(_hb:48≤bAt s (i:Int))(_hb2:bAt s (i:Int)≤57)(a0:decide (((i:Int):Int) < s.data.toList.length)=true)(a1:decide (((bAt s (i:Int):Int):Int) < 48)=false)(a2:decide (((bAt s (i:Int):Int):Int)>57)=false)(a3:decide (((u:Int):Int)>922337203685477580)=false):Bd n 71 [1,1,1,1,1,0,1,0,0] Tryz.f51 [(0,.string s),(2,pv B2 0),(3,iv (f:Int)),(4,.int .u64 (u:Int)),(5,iv (i:Int))] h .normal [(0,.string s),(2,pv B2 0),(3,iv (f:Int)),(4,.int .u64 (((u:Int) * 10)+((bAt s (i:Int):Int) - 48))),(5,iv ((i:Int)+1))] h:=
 bdF (kZ h) [yT a0,yI 9 s (i:Int),yF a1,yI 9 s (i:Int),yF a2,yF a3,.x [.v (.int .u64 ((u:Int) * 10))] fun _=>[⟨some (Value.int .u64 (IntKind.u64.wrap ((u:Int) * 10)))=some (.int .u64 ((u:Int) * 10)),add_u64 (by omega) (by omega)⟩],yI 9 s (i:Int),yU ((bAt s (i:Int):Int) - 48),.x [.v (.int .u64 ((bAt s (i:Int):Int) - 48))] fun _=>[⟨some (Value.int .u64 (IntKind.u64.wrap ((bAt s (i:Int):Int) - 48)))=some (.int .u64 ((bAt s (i:Int):Int) - 48)),add_u64 (by omega) (by omega)⟩],.x [.v (.int .u64 (((u:Int) * 10)+((bAt s (i:Int):Int) - 48)))] fun _=>[⟨some (Value.int .u64 (IntKind.u64.wrap (((u:Int) * 10)+((bAt s (i:Int):Int) - 48))))=some (.int .u64 (((u:Int) * 10)+((bAt s (i:Int):Int) - 48))),add_u64 (by omega) (by omega)⟩],yW ((i:Int)+1),.z 0]
theorem pu_m1(h:Heap)(s:ByteArray)(n:Nat)(_hs:s.data.toList.length < 4000)(_h0:0 < s.data.toList.length)(a0:decide ((s.data.toList.length:Int)>0)=true)(a1:(((bAt s 0:Int):Int)==45)=true)(a2:((s.data.toList.length:Int)==1)=true):Fn n 51 [.string s] h (.agg #[iv 0,.bool false]) (pt (al h.fresh 117 [iv 0,.bool false]) h.nx 117 [iv 0,.bool false]):=
 fnV (kZ h) [aS 117 [iv 0,.bool false],yT a0,yI 9 s 0,yT a1,yT a2,.w 0 117 0 (.agg #[iv 0,.bool false]),.r 0 117 2]
theorem pu_m2(h:Heap)(s:ByteArray)(n:Nat)(_hs:s.data.toList.length < 4000)(_h0:0 < s.data.toList.length)(a0:decide ((s.data.toList.length:Int)>0)=true)(a1:(((bAt s 0:Int):Int)==45)=true)(a2:((s.data.toList.length:Int)==1)=false)(a3:decide ((s.data.toList.length:Int)>20)=true):Fn n 51 [.string s] h (.agg #[iv 0,.bool false]) (pt (al h.fresh 117 [iv 0,.bool false]) h.nx 117 [iv 0,.bool false]):=
 fnV (kZ h) [aS 117 [iv 0,.bool false],yT a0,yI 9 s 0,yT a1,yF a2,yT a3,.w 0 117 0 (.agg #[iv 0,.bool false]),.r 0 117 2]
theorem pu_m3(h hL:Heap)(s:ByteArray)(u n:Nat)(gL:hL.get h.nx=some (.row 117 [iv 0,.bool false] 0 false))(_l:h.nx < hL.nx)(_hs:s.data.toList.length < 4000)(_h0:0 < s.data.toList.length)(_hu:u < 18446744073709551616)(a0:decide ((s.data.toList.length:Int)>0)=true)(a1:(((bAt s 0:Int):Int)==45)=true)(a2:((s.data.toList.length:Int)==1)=false)(a3:decide ((s.data.toList.length:Int)>20)=false)(a4:Lf n 71 [1,1,1,1,1,0,1,0,0] Tryz.f51 [(0,.string s),(2,pv h.nx 0),(3,iv 1),(7,.string s),(8,iv s.data.toList.length),(9,.bool true),(10,.bool true),(11,.string s),(12,.int .u8 (bAt s 0:Int)),(13,.bool true),(14,.bool true),(15,.string s),(16,iv s.data.toList.length),(17,iv 1),(18,.bool false),(19,.bool false),(20,.string s),(21,iv s.data.toList.length),(22,.bool false),(23,.bool false),(4,.int .u64 0),(25,iv 1),(5,iv 1)] (al h.fresh 117 [iv 0,.bool false]) .ret [(2,pv h.nx 0)] hL):Fn n 51 [.string s] h (.agg #[iv 0,.bool false]) hL:=
 fnV (kZ h) [aS 117 [iv 0,.bool false],yT a0,yI 9 s 0,yT a1,yF a2,yF a3,yS a4 (kI (ko gL)),.r 0 117 2]
theorem pu_m4(h hL:Heap)(s d:ByteArray)(u n:Nat)(N:Int)(gL:hL.get h.nx=some (.row 117 [iv 0,.bool false] 0 false))(_l:h.nx < hL.nx)(_hs:s.data.toList.length < 4000)(_h0:0 < s.data.toList.length)(_hu:u < 18446744073709551616)(a0:decide ((s.data.toList.length:Int)>0)=true)(a1:(((bAt s 0:Int):Int)==45)=true)(a2:((s.data.toList.length:Int)==1)=false)(a3:decide ((s.data.toList.length:Int)>20)=false)(a4:Lf n 71 [1,1,1,1,1,0,1,0,0] Tryz.f51 [(0,.string s),(2,pv h.nx 0),(3,iv 1),(7,.string s),(8,iv s.data.toList.length),(9,.bool true),(10,.bool true),(11,.string s),(12,.int .u8 (bAt s 0:Int)),(13,.bool true),(14,.bool true),(15,.string s),(16,iv s.data.toList.length),(17,iv 1),(18,.bool false),(19,.bool false),(20,.string s),(21,iv s.data.toList.length),(22,.bool false),(23,.bool false),(4,.int .u64 0),(25,iv 1),(5,iv 1)] (al h.fresh 117 [iv 0,.bool false]) (.exit 0) [(0,.string s),(2,pv h.nx 0),(3,iv 1),(4,.int .u64 (u:Int))] hL)(a5:Pu n 76 [.int .u64 (u:Int),.bool true] (.agg #[iv N,.bool false]) hL):Fn n 51 [.string s] h (.agg #[iv 0,.bool false]) (pt (pt (al hL 117 [iv 0,.bool false]) hL.nx 117 [iv N,.bool false]) h.nx 117 [iv 0,.bool false]):=
 fnV (kZ h) [aS 117 [iv 0,.bool false],yT a0,yI 9 s 0,yT a1,yF a2,yF a3,yS a4 (kI (ko gL)),bT,yP a5,aS 117 [iv 0,.bool false],.w 1 117 0 (.agg #[iv N,.bool false]),.l 1 4 1,.w 0 117 0 (.agg #[iv 0,.bool false]),.r 0 117 2]
theorem pu_m5(h hL:Heap)(s d:ByteArray)(u n:Nat)(N:Int)(gL:hL.get h.nx=some (.row 117 [iv 0,.bool false] 0 false))(_l:h.nx < hL.nx)(_hs:s.data.toList.length < 4000)(_h0:0 < s.data.toList.length)(_hu:u < 18446744073709551616)(a0:decide ((s.data.toList.length:Int)>0)=true)(a1:(((bAt s 0:Int):Int)==45)=true)(a2:((s.data.toList.length:Int)==1)=false)(a3:decide ((s.data.toList.length:Int)>20)=false)(a4:Lf n 71 [1,1,1,1,1,0,1,0,0] Tryz.f51 [(0,.string s),(2,pv h.nx 0),(3,iv 1),(7,.string s),(8,iv s.data.toList.length),(9,.bool true),(10,.bool true),(11,.string s),(12,.int .u8 (bAt s 0:Int)),(13,.bool true),(14,.bool true),(15,.string s),(16,iv s.data.toList.length),(17,iv 1),(18,.bool false),(19,.bool false),(20,.string s),(21,iv s.data.toList.length),(22,.bool false),(23,.bool false),(4,.int .u64 0),(25,iv 1),(5,iv 1)] (al h.fresh 117 [iv 0,.bool false]) (.exit 0) [(0,.string s),(2,pv h.nx 0),(3,iv 1),(4,.int .u64 (u:Int))] hL)(a5:Pu n 76 [.int .u64 (u:Int),.bool true] (.agg #[iv N,.bool true]) hL)(a6:Pu n 42 [iv N] (.string d) (pt (al hL 117 [iv 0,.bool false]) hL.nx 117 [iv N,.bool true]))(a7:(!bqS d s)=true):Fn n 51 [.string s] h (.agg #[iv 0,.bool false]) (pt (pt (al hL 117 [iv 0,.bool false]) hL.nx 117 [iv N,.bool true]) h.nx 117 [iv 0,.bool false]):=
 fnV (kZ h) [aS 117 [iv 0,.bool false],yT a0,yI 9 s 0,yT a1,yF a2,yF a3,yS a4 (kI (ko gL)),bT,yP a5,aS 117 [iv 0,.bool false],.w 1 117 0 (.agg #[iv N,.bool true]),.l 1 4 1,.l 1 2 0,yP a6,yT a7,.w 0 117 0 (.agg #[iv 0,.bool false]),.r 0 117 2]
theorem pu_m6(h hL:Heap)(s d:ByteArray)(u n:Nat)(N:Int)(gL:hL.get h.nx=some (.row 117 [iv 0,.bool false] 0 false))(_l:h.nx < hL.nx)(_hs:s.data.toList.length < 4000)(_h0:0 < s.data.toList.length)(_hu:u < 18446744073709551616)(a0:decide ((s.data.toList.length:Int)>0)=true)(a1:(((bAt s 0:Int):Int)==45)=true)(a2:((s.data.toList.length:Int)==1)=false)(a3:decide ((s.data.toList.length:Int)>20)=false)(a4:Lf n 71 [1,1,1,1,1,0,1,0,0] Tryz.f51 [(0,.string s),(2,pv h.nx 0),(3,iv 1),(7,.string s),(8,iv s.data.toList.length),(9,.bool true),(10,.bool true),(11,.string s),(12,.int .u8 (bAt s 0:Int)),(13,.bool true),(14,.bool true),(15,.string s),(16,iv s.data.toList.length),(17,iv 1),(18,.bool false),(19,.bool false),(20,.string s),(21,iv s.data.toList.length),(22,.bool false),(23,.bool false),(4,.int .u64 0),(25,iv 1),(5,iv 1)] (al h.fresh 117 [iv 0,.bool false]) (.exit 0) [(0,.string s),(2,pv h.nx 0),(3,iv 1),(4,.int .u64 (u:Int))] hL)(a5:Pu n 76 [.int .u64 (u:Int),.bool true] (.agg #[iv N,.bool true]) hL)(a6:Pu n 42 [iv N] (.string d) (pt (al hL 117 [iv 0,.bool false]) hL.nx 117 [iv N,.bool true]))(a7:(!bqS d s)=false):Fn n 51 [.string s] h (.agg #[iv N,.bool true]) (pt (pt (al hL 117 [iv 0,.bool false]) hL.nx 117 [iv N,.bool true]) h.nx 117 [iv N,.bool true]):=
 fnV (kZ h) [aS 117 [iv 0,.bool false],yT a0,yI 9 s 0,yT a1,yF a2,yF a3,yS a4 (kI (ko gL)),bT,yP a5,aS 117 [iv 0,.bool false],.w 1 117 0 (.agg #[iv N,.bool true]),.l 1 4 1,.l 1 2 0,yP a6,yF a7,.g 1 117 0 2,.w 0 117 0 (.agg #[iv N,.bool true]),.r 0 117 2]
theorem pu_p1(h:Heap)(s:ByteArray)(n:Nat)(_hs:s.data.toList.length < 4000)(_h0:0 < s.data.toList.length)(a0:decide ((s.data.toList.length:Int)>0)=true)(a1:(((bAt s 0:Int):Int)==45)=false)(a2:((s.data.toList.length:Int)==0)=true):Fn n 51 [.string s] h (.agg #[iv 0,.bool false]) (pt (al h.fresh 117 [iv 0,.bool false]) h.nx 117 [iv 0,.bool false]):=
 fnV (kZ h) [aS 117 [iv 0,.bool false],yT a0,yI 9 s 0,yF a1,yT a2,.w 0 117 0 (.agg #[iv 0,.bool false]),.r 0 117 2]
theorem pu_p2(h:Heap)(s:ByteArray)(n:Nat)(_hs:s.data.toList.length < 4000)(_h0:0 < s.data.toList.length)(a0:decide ((s.data.toList.length:Int)>0)=true)(a1:(((bAt s 0:Int):Int)==45)=false)(a2:((s.data.toList.length:Int)==0)=false)(a3:decide ((s.data.toList.length:Int)>20)=true):Fn n 51 [.string s] h (.agg #[iv 0,.bool false]) (pt (al h.fresh 117 [iv 0,.bool false]) h.nx 117 [iv 0,.bool false]):=
 fnV (kZ h) [aS 117 [iv 0,.bool false],yT a0,yI 9 s 0,yF a1,yF a2,yT a3,.w 0 117 0 (.agg #[iv 0,.bool false]),.r 0 117 2]
theorem pu_p3(h hL:Heap)(s:ByteArray)(u n:Nat)(gL:hL.get h.nx=some (.row 117 [iv 0,.bool false] 0 false))(_l:h.nx < hL.nx)(_hs:s.data.toList.length < 4000)(_h0:0 < s.data.toList.length)(_hu:u < 18446744073709551616)(a0:decide ((s.data.toList.length:Int)>0)=true)(a1:(((bAt s 0:Int):Int)==45)=false)(a2:((s.data.toList.length:Int)==0)=false)(a3:decide ((s.data.toList.length:Int)>20)=false)(a4:Lf n 71 [1,1,1,1,1,0,1,0,0] Tryz.f51 [(0,.string s),(2,pv h.nx 0),(3,iv 0),(7,.string s),(8,iv s.data.toList.length),(9,.bool true),(10,.bool true),(11,.string s),(12,.int .u8 (bAt s 0:Int)),(13,.bool false),(14,.bool false),(15,.string s),(16,iv s.data.toList.length),(17,iv 0),(18,.bool false),(19,.bool false),(20,.string s),(21,iv s.data.toList.length),(22,.bool false),(23,.bool false),(4,.int .u64 0),(25,iv 0),(5,iv 0)] (al h.fresh 117 [iv 0,.bool false]) .ret [(2,pv h.nx 0)] hL):Fn n 51 [.string s] h (.agg #[iv 0,.bool false]) hL:=
 fnV (kZ h) [aS 117 [iv 0,.bool false],yT a0,yI 9 s 0,yF a1,yF a2,yF a3,yS a4 (kI (ko gL)),.r 0 117 2]
theorem pu_p4(h hL:Heap)(s d:ByteArray)(u n:Nat)(N:Int)(gL:hL.get h.nx=some (.row 117 [iv 0,.bool false] 0 false))(_l:h.nx < hL.nx)(_hs:s.data.toList.length < 4000)(_h0:0 < s.data.toList.length)(_hu:u < 18446744073709551616)(a0:decide ((s.data.toList.length:Int)>0)=true)(a1:(((bAt s 0:Int):Int)==45)=false)(a2:((s.data.toList.length:Int)==0)=false)(a3:decide ((s.data.toList.length:Int)>20)=false)(a4:Lf n 71 [1,1,1,1,1,0,1,0,0] Tryz.f51 [(0,.string s),(2,pv h.nx 0),(3,iv 0),(7,.string s),(8,iv s.data.toList.length),(9,.bool true),(10,.bool true),(11,.string s),(12,.int .u8 (bAt s 0:Int)),(13,.bool false),(14,.bool false),(15,.string s),(16,iv s.data.toList.length),(17,iv 0),(18,.bool false),(19,.bool false),(20,.string s),(21,iv s.data.toList.length),(22,.bool false),(23,.bool false),(4,.int .u64 0),(25,iv 0),(5,iv 0)] (al h.fresh 117 [iv 0,.bool false]) (.exit 0) [(0,.string s),(2,pv h.nx 0),(3,iv 0),(4,.int .u64 (u:Int))] hL)(a5:Pu n 76 [.int .u64 (u:Int),.bool false] (.agg #[iv N,.bool false]) hL):Fn n 51 [.string s] h (.agg #[iv 0,.bool false]) (pt (pt (al hL 117 [iv 0,.bool false]) hL.nx 117 [iv N,.bool false]) h.nx 117 [iv 0,.bool false]):=
 fnV (kZ h) [aS 117 [iv 0,.bool false],yT a0,yI 9 s 0,yF a1,yF a2,yF a3,yS a4 (kI (ko gL)),bF,yP a5,aS 117 [iv 0,.bool false],.w 1 117 0 (.agg #[iv N,.bool false]),.l 1 4 1,.w 0 117 0 (.agg #[iv 0,.bool false]),.r 0 117 2]
theorem pu_p5(h hL:Heap)(s d:ByteArray)(u n:Nat)(N:Int)(gL:hL.get h.nx=some (.row 117 [iv 0,.bool false] 0 false))(_l:h.nx < hL.nx)(_hs:s.data.toList.length < 4000)(_h0:0 < s.data.toList.length)(_hu:u < 18446744073709551616)(a0:decide ((s.data.toList.length:Int)>0)=true)(a1:(((bAt s 0:Int):Int)==45)=false)(a2:((s.data.toList.length:Int)==0)=false)(a3:decide ((s.data.toList.length:Int)>20)=false)(a4:Lf n 71 [1,1,1,1,1,0,1,0,0] Tryz.f51 [(0,.string s),(2,pv h.nx 0),(3,iv 0),(7,.string s),(8,iv s.data.toList.length),(9,.bool true),(10,.bool true),(11,.string s),(12,.int .u8 (bAt s 0:Int)),(13,.bool false),(14,.bool false),(15,.string s),(16,iv s.data.toList.length),(17,iv 0),(18,.bool false),(19,.bool false),(20,.string s),(21,iv s.data.toList.length),(22,.bool false),(23,.bool false),(4,.int .u64 0),(25,iv 0),(5,iv 0)] (al h.fresh 117 [iv 0,.bool false]) (.exit 0) [(0,.string s),(2,pv h.nx 0),(3,iv 0),(4,.int .u64 (u:Int))] hL)(a5:Pu n 76 [.int .u64 (u:Int),.bool false] (.agg #[iv N,.bool true]) hL)(a6:Pu n 42 [iv N] (.string d) (pt (al hL 117 [iv 0,.bool false]) hL.nx 117 [iv N,.bool true]))(a7:(!bqS d s)=true):Fn n 51 [.string s] h (.agg #[iv 0,.bool false]) (pt (pt (al hL 117 [iv 0,.bool false]) hL.nx 117 [iv N,.bool true]) h.nx 117 [iv 0,.bool false]):=
 fnV (kZ h) [aS 117 [iv 0,.bool false],yT a0,yI 9 s 0,yF a1,yF a2,yF a3,yS a4 (kI (ko gL)),bF,yP a5,aS 117 [iv 0,.bool false],.w 1 117 0 (.agg #[iv N,.bool true]),.l 1 4 1,.l 1 2 0,yP a6,yT a7,.w 0 117 0 (.agg #[iv 0,.bool false]),.r 0 117 2]
theorem pu_p6(h hL:Heap)(s d:ByteArray)(u n:Nat)(N:Int)(gL:hL.get h.nx=some (.row 117 [iv 0,.bool false] 0 false))(_l:h.nx < hL.nx)(_hs:s.data.toList.length < 4000)(_h0:0 < s.data.toList.length)(_hu:u < 18446744073709551616)(a0:decide ((s.data.toList.length:Int)>0)=true)(a1:(((bAt s 0:Int):Int)==45)=false)(a2:((s.data.toList.length:Int)==0)=false)(a3:decide ((s.data.toList.length:Int)>20)=false)(a4:Lf n 71 [1,1,1,1,1,0,1,0,0] Tryz.f51 [(0,.string s),(2,pv h.nx 0),(3,iv 0),(7,.string s),(8,iv s.data.toList.length),(9,.bool true),(10,.bool true),(11,.string s),(12,.int .u8 (bAt s 0:Int)),(13,.bool false),(14,.bool false),(15,.string s),(16,iv s.data.toList.length),(17,iv 0),(18,.bool false),(19,.bool false),(20,.string s),(21,iv s.data.toList.length),(22,.bool false),(23,.bool false),(4,.int .u64 0),(25,iv 0),(5,iv 0)] (al h.fresh 117 [iv 0,.bool false]) (.exit 0) [(0,.string s),(2,pv h.nx 0),(3,iv 0),(4,.int .u64 (u:Int))] hL)(a5:Pu n 76 [.int .u64 (u:Int),.bool false] (.agg #[iv N,.bool true]) hL)(a6:Pu n 42 [iv N] (.string d) (pt (al hL 117 [iv 0,.bool false]) hL.nx 117 [iv N,.bool true]))(a7:(!bqS d s)=false):Fn n 51 [.string s] h (.agg #[iv N,.bool true]) (pt (pt (al hL 117 [iv 0,.bool false]) hL.nx 117 [iv N,.bool true]) h.nx 117 [iv N,.bool true]):=
 fnV (kZ h) [aS 117 [iv 0,.bool false],yT a0,yI 9 s 0,yF a1,yF a2,yF a3,yS a4 (kI (ko gL)),bF,yP a5,aS 117 [iv 0,.bool false],.w 1 117 0 (.agg #[iv N,.bool true]),.l 1 4 1,.l 1 2 0,yP a6,yF a7,.g 1 117 0 2,.w 0 117 0 (.agg #[iv N,.bool true]),.r 0 117 2]
theorem pu_e(h:Heap)(s:ByteArray)(n:Nat)(_hs:s.data.toList.length < 4000)(a0:decide ((s.data.toList.length:Int)>0)=false)(a1:((s.data.toList.length:Int)==0)=true):Fn n 51 [.string s] h (.agg #[iv 0,.bool false]) (pt (al h.fresh 117 [iv 0,.bool false]) h.nx 117 [iv 0,.bool false]):=
 fnV (kZ h) [aS 117 [iv 0,.bool false],yF a0,yT a1,.w 0 117 0 (.agg #[iv 0,.bool false]),.r 0 117 2]
end Go.PanE
namespace Go.PanE
open Go.Proofs
theorem rem_u64n{u:Nat}(h:u < 18446744073709551616):intBin .rem .u64 ((u:Nat):Int) 10=some (.int .u64 ((u % 10:Nat):Int)):=by
 unfold intBin
 simp only
 rw[if_neg (by omega),Int.tmod_eq_emod_of_nonneg (by omega)]
 have e:((u:Nat):Int) % 10=((u % 10:Nat):Int):=by omega
 rw[e]
theorem quo_u64n{u:Nat}(h:u < 18446744073709551616):intBin .quo .u64 ((u:Nat):Int) 10=some (.int .u64 ((u / 10:Nat):Int)):=by
 have e:((u:Nat):Int) / 10=((u / 10:Nat):Int):=by omega
 rw[← e]
 exact quo_u64 (by omega) (by omega) (by omega)
theorem dig_cut{d:Nat}(h:d < 10):cutS ⟨#[48,49,50,51,52,53,54,55,56,57]⟩ ((d:Nat):Int) (((d:Nat):Int)+1)=⟨⟨[UInt8.ofNat (48+d)]⟩⟩:=by
 have:d=0∨d=1∨d=2∨d=3∨d=4∨d=5∨d=6∨d=7∨d=8∨d=9:=by omega
 rcases this with rfl|rfl|rfl|rfl|rfl|rfl|rfl|rfl|rfl|rfl <;>rfl
abbrev DgL(n:Nat):=Loops En (RD n) 22 5000 (sub [1,1,0,1,0,0] (bodyOf Tryz.f67))
theorem dg_loop(n:Nat)(h:Heap):∀ (k u i:Nat) (d:List UInt8),u < 10 ^ (k+1)→u < 18446744073709551616→i+k < 20→d.length+k≤50→
  ∃ R,R≤k+1∧DgL n [(0,.int .u64 ((u:Nat):Int)),(3,.string ⟨⟨d⟩⟩),(4,iv ((i:Nat):Int))] h (.exit 0) [(3,.string ⟨⟨Lib.decDigits u++d⟩⟩)] h R:=by
 intro k
 induction k with
 |zero=>
  intro u i d h1 h2 h3 h4
  have hb:=dg_end h u i n ⟨⟨d⟩⟩ h2 (by omega) (by rw[ba_size];omega) rfl (lt_dec (b:=20) (by omega)) (rem_u64n h2) (rem_u64n h2) (quo_u64n h2) (eqK (k:=0) (by omega))
  rw[dig_cut (Nat.mod_lt _ (by decide)),ba_app] at hb
  refine⟨1,by omega,.out ?_⟩
  rw[Lib.decDigits,dif_pos (by omega)]
  rw[Nat.mod_eq_of_lt (by omega)] at hb
  exact hb
 |succ k ih=>
  intro u i d h1 h2 h3 h4
  by_cases hu:u < 10
  ·have hb:=dg_end h u i n ⟨⟨d⟩⟩ h2 (by omega) (by rw[ba_size];omega) rfl (lt_dec (b:=20) (by omega)) (rem_u64n h2) (rem_u64n h2) (quo_u64n h2) (eqK (k:=0) (by omega))
   rw[dig_cut (Nat.mod_lt _ (by decide)),ba_app] at hb
   refine⟨1,by omega,.out ?_⟩
   rw[Lib.decDigits,dif_pos hu]
   rw[Nat.mod_eq_of_lt (by omega)] at hb
   exact hb
  ·have hb:=dg_on h u i n ⟨⟨d⟩⟩ h2 (by omega) (by rw[ba_size];omega) rfl (lt_dec (b:=20) (by omega)) (rem_u64n h2) (rem_u64n h2) (quo_u64n h2) (neK (k:=0) (by omega))
   rw[dig_cut (Nat.mod_lt _ (by decide)),ba_app] at hb
   obtain⟨R,hR,L⟩:=ih (u / 10) (i+1) ([UInt8.ofNat (48+u % 10)]++d) (by rw[Nat.pow_succ] at h1;omega) (by omega) (by omega) (by rw[List.length_append];simp only[List.length_cons,List.length_nil];omega)
   rw[← List.append_assoc] at L
   have e:Lib.decDigits u=Lib.decDigits (u / 10)++[UInt8.ofNat (48+u % 10)]:=by
    conv=>lhs;rw[Lib.decDigits]
    rw[dif_neg hu]
   rw[e]
   exact⟨R+1,by omega,.on hb L⟩
theorem digits_law{u:Nat}(hu:u < 18446744073709551616)(h:Heap)(n:Nat)(hn:1≤n):RD n 67 [.int .u64 ((u:Nat):Int)] h=some (.string ⟨⟨Lib.decDigits u⟩⟩,h):=by
 obtain⟨n,rfl⟩:∃ m,n=m+1:=⟨n - 1,by omega⟩
 obtain⟨R,hR,L⟩:=dg_loop n h.fresh 19 u 0 [] (by omega) hu (by omega) (by simp)
 rw[List.append_nil] at L
 exact fin_old (dg_fn h _ u n _ (L.fact' (by omega) ⟨by kernel_rfl,by kernel_rfl,by kernel_rfl,trivial⟩)) rfl
theorem whole_law{a:Int}(h1: -9223372036854775808≤a)(h2:a≤9223372036854775807)(h:Heap)(n:Nat)(hn:1≤n):RD n 68 [iv a] h=some (.int .u64 ((a.natAbs:Nat):Int),h):=by
 obtain⟨n,rfl⟩:∃ m,n=m+1:=⟨n - 1,by omega⟩
 by_cases h0:a < 0
 ·have ew:IntKind.i64.wrap (0 - (a+1))= -(a+1):=by rw[wrap_i64 (by omega) (by omega)];omega
  have e:=wh_n h a n h1 h0 ew (decide_eq_true h0)
  rw[ew,show -(a+1)+1=((a.natAbs:Nat):Int) by omega] at e
  exact fin_old e rfl
 ·have e:=wh_p h a n (by omega) h2 (decide_eq_false h0)
  rw[show((a.natAbs:Nat):Int)=a by omega]
  exact fin_old e rfl
theorem dec2_law{a:Int}(h1: -9223372036854775808≤a)(h2:a≤9223372036854775807)(h:Heap)(n:Nat)(hn:2≤n):RD n 42 [iv a] h=some (.string ⟨⟨Lib.itoa a⟩⟩,h):=by
 obtain⟨n,rfl⟩:∃ m,n=m+1:=⟨n - 1,by omega⟩
 have e1:=whole_law h1 h2 h.fresh n (by omega)
 have e2:=digits_law (u:=a.natAbs) (by omega) h.fresh n (by omega)
 unfold Lib.itoa
 by_cases h0:a < 0
 ·rw[if_pos h0]
  have e:=de_n h a a.natAbs n _ (by rw[ba_size];have:=digits_len 19 a.natAbs (by omega);omega) (decide_eq_true h0) e1 e2
  rw[show(⟨#[45]⟩++⟨⟨Lib.decDigits a.natAbs⟩⟩:ByteArray)=⟨⟨45::Lib.decDigits a.natAbs⟩⟩ from ba_app [45] _] at e
  exact fin_old e rfl
 ·rw[if_neg h0]
  have e:=de_p h a a.natAbs n _ (decide_eq_false h0) e1 e2
  rw[show a.toNat=a.natAbs by omega]
  exact fin_old e rfl
theorem signed_law{u:Nat}(hu:u < 18446744073709551616)(b:Bool)(h:Heap)(n:Nat)(hn:1≤n):∃ N ok,-9223372036854775808≤N∧N≤9223372036854775807∧RD n 76 [.int .u64 ((u:Nat):Int),.bool b] h=some (.agg #[iv N,.bool ok],h)∧(u < 9223372036854775808→b=false→N=(u:Int)∧ok=true):=by
 obtain⟨n,rfl⟩:∃ m,n=m+1:=⟨n - 1,by omega⟩
 have fl:∀ {X:Option (Value×Heap)} {N:Int} {ok:Bool},X=some (finish h (.agg #[iv N,.bool ok]) (pt (al h.fresh 117 [iv 0,.bool false]) h.nx 117 [iv N,.bool ok]))→X=some (.agg #[iv N,.bool ok],h):=fun e=>by
  rw[e,finish_low (by simp only[al,pt,Heap.wm_alloc,Heap.wm_put,Heap.wm_fresh];omega) rfl]
 have eq63:∀ {x:Bool},decide (u=9223372036854775808)=x→((((u:Nat):Int):Int)==9223372036854775808)=x:=fun hx=>by rw[← hx];exact eqN u 9223372036854775808
 cases b with
 |true=>
  by_cases h0:u=9223372036854775808
  ·exact⟨_,_,by omega,by omega,fl (si_min h u n hu (eq63 (decide_eq_true h0))),fun _ h=>by cases h⟩
  ·by_cases h1:9223372036854775808≤u
   ·exact⟨_,_,by omega,by omega,fl (si_mb h u n hu (eq63 (decide_eq_false h0)) (decide_eq_true (by omega))),fun _ h=>by cases h⟩
   ·have e:=si_neg h u n (by omega) (eq63 (decide_eq_false h0)) (decide_eq_false (by omega))
    rw[wrap_i64 (by omega) (by omega)] at e
    exact⟨_,_,by omega,by omega,fl e,fun _ h=>by cases h⟩
 |false=>
  by_cases h1:9223372036854775808≤u
  ·exact⟨_,_,by omega,by omega,fl (si_pb h u n hu (decide_eq_true (by omega))),fun h=>by omega⟩
  ·exact⟨_,_,by omega,by omega,fl (si_pos h u n (by omega) (decide_eq_false (by omega))),fun _ _=>⟨rfl,rfl⟩⟩
/-! Parse. -/
def stepD(u:Nat)(b:UInt8):Option Nat:=if b.toNat < 48∨57 < b.toNat∨922337203685477580 < u then none else some (u * 10+(b.toNat - 48))
def foldD:List UInt8→Nat→Option Nat
 |[],u=>some u
 |b::l,u=>match stepD u b with|some u'=>foldD l u'|none=>none
theorem foldD_append(l m:List UInt8):∀ u,foldD (l++m) u=match foldD l u with|some u'=>foldD m u'|none=>none:=by
 induction l with
 |nil=>intro a;rfl
 |cons b l ih=>
  intro a
  show(match stepD a b with|some a'=>foldD (l++m) a'|none=>none)=match(match stepD a b with|some a'=>foldD l a'|none=>none) with|some a'=>foldD m a'|none=>none
  cases stepD a b with
  |none=>rfl
  |some a'=>exact ih a'
theorem stepD_dig{u d:Nat}(h:d < 10)(hu:u≤1000):stepD u (UInt8.ofNat (48+d))=some (u * 10+d):=by
 unfold stepD
 rw[ofNat_toNat (by omega),if_neg (by omega)]
 congr 1
 omega
theorem foldD_dec:∀ u,u≤1000→foldD (Lib.decDigits u) 0=some u:=by
 intro u
 induction u using Nat.strongRecOn with
 |ind u ih=>
  intro hu
  rw[Lib.decDigits]
  by_cases h:u < 10
  ·rw[dif_pos h]
   show(match stepD 0 (UInt8.ofNat (48+u)) with|some a'=>foldD [] a'|none=>none)=_
   rw[stepD_dig h (by omega)]
   show some (0 * 10+u)=_
   rw[Nat.zero_mul,Nat.zero_add]
  ·rw[dif_neg h,foldD_append,ih (u / 10) (by omega) (by omega)]
   show(match stepD (u / 10) (UInt8.ofNat (48+u % 10)) with|some a'=>foldD [] a'|none=>none)=_
   rw[stepD_dig (by omega) (by omega)]
   show some (u / 10 * 10+u % 10)=_
   congr 1
   omega
abbrev PlL(n:Nat):=Loops En (RD n) 71 5000 (sub [1,1,1,1,1,0,1,0,0] (bodyOf Tryz.f51))
theorem pl_loop(l:List UInt8)(hl:l.length≤20)(n f B2:Nat):∀ (rest:List UInt8) (i u:Nat) (h:Heap),l.drop i=rest→i≤20→u≤9223372036854775809→h.get B2=some (.row 117 [iv 0,.bool false] 0 false)→
  ∃ hL R,R≤rest.length+1∧h.nx=hL.nx∧(∀ c,hL.get c=h.get c)∧min B2 h.wm≤hL.wm∧
   match foldD rest u with
   |some u'=>u'≤9223372036854775809∧PlL n [(0,.string ⟨⟨l⟩⟩),(2,pv B2 0),(3,iv ((f:Nat):Int)),(4,.int .u64 ((u:Nat):Int)),(5,iv ((i:Nat):Int))] h (.exit 0) [(0,.string ⟨⟨l⟩⟩),(2,pv B2 0),(3,iv ((f:Nat):Int)),(4,.int .u64 ((u':Nat):Int))] hL R
   |none=>PlL n [(0,.string ⟨⟨l⟩⟩),(2,pv B2 0),(3,iv ((f:Nat):Int)),(4,.int .u64 ((u:Nat):Int)),(5,iv ((i:Nat):Int))] h .ret [(2,pv B2 0)] hL R:=by
 intro rest
 induction rest with
 |nil=>
  intro i u h hr hi hu g2
  have:l.length≤i:=List.drop_eq_nil_iff.1 hr
  exact⟨h,1,by simp,rfl,fun _=>rfl,Nat.min_le_right _ _,hu,.out (pl_out h ⟨⟨l⟩⟩ f u i B2 n g2 hu (by omega) (by show l.length < 4000;omega) (lt_dec' (a:=i) (b:=l.length) (by omega)))⟩
 |cons b rest ih=>
  intro i u h hr hi hu g2
  have hlt:i < l.length:=by
   rcases Nat.lt_or_ge i l.length with h1|h1
   ·exact h1
   ·rw[List.drop_eq_nil_of_le h1] at hr;cases hr
  have hbe:bAt ⟨⟨l⟩⟩ ((i:Nat):Int)=b.toNat:=by
   have:=congrArg List.head? hr
   rw[List.head?_drop] at this
   unfold bAt
   simp[this]
  have hlb:decide ((((i:Nat):Int):Int) < (l.length:Nat))=true:=lt_dec hlt
  have h2l:=Heap.lt_of_get g2
  have ret:∀ {x:Unit},stepD u b=none→BodyTo En (RD n) 71 5000 (sub [1,1,1,1,1,0,1,0,0] (bodyOf Tryz.f51)) [(0,.string ⟨⟨l⟩⟩),(2,pv B2 0),(3,iv ((f:Nat):Int)),(4,.int .u64 ((u:Nat):Int)),(5,iv ((i:Nat):Int))] h .ret [(2,pv B2 0)] (pt h B2 117 [iv 0,.bool false])→
    ∃ hL R,R≤(b::rest).length+1∧h.nx=hL.nx∧(∀ c,hL.get c=h.get c)∧min B2 h.wm≤hL.wm∧
     match foldD (b::rest) u with
     |some u'=>u'≤9223372036854775809∧PlL n [(0,.string ⟨⟨l⟩⟩),(2,pv B2 0),(3,iv ((f:Nat):Int)),(4,.int .u64 ((u:Nat):Int)),(5,iv ((i:Nat):Int))] h (.exit 0) [(0,.string ⟨⟨l⟩⟩),(2,pv B2 0),(3,iv ((f:Nat):Int)),(4,.int .u64 ((u':Nat):Int))] hL R
     |none=>PlL n [(0,.string ⟨⟨l⟩⟩),(2,pv B2 0),(3,iv ((f:Nat):Int)),(4,.int .u64 ((u:Nat):Int)),(5,iv ((i:Nat):Int))] h .ret [(2,pv B2 0)] hL R:=by
   intro _ hn hb
   have e:foldD (b::rest) u=none:=by
    show(match stepD u b with|some a'=>foldD rest a'|none=>none)=none
    rw[hn]
   rw[e]
   refine⟨pt h B2 117 [iv 0,.bool false],1,by simp,rfl,fun c=>?_,by rw[Heap.wm_put];omega,.ret hb⟩
   by_cases hc:c=B2
   ·rw[hc,g2];exact Heap.get_put_same _ _ _ h2l
   ·exact Heap.get_put_other _ _ _ _ h2l hc
  by_cases h48:b.toNat < 48
  ·exact ret (x:=()) (by unfold stepD;rw[if_pos (.inl h48)]) (pl_b1 h ⟨⟨l⟩⟩ f u i B2 n g2 hu (by omega) (by show l.length < 4000;omega) hlt hlb (decide_eq_true (by rw[hbe];omega)))
  by_cases h57:57 < b.toNat
  ·exact ret (x:=()) (by unfold stepD;rw[if_pos (.inr (.inl h57))]) (pl_b2 h ⟨⟨l⟩⟩ f u i B2 n g2 hu (by omega) (by show l.length < 4000;omega) hlt hlb (decide_eq_false (by rw[hbe];omega)) (decide_eq_true (by rw[hbe];omega)))
  by_cases hu2:922337203685477580 < u
  ·exact ret (x:=()) (by unfold stepD;rw[if_pos (.inr (.inr hu2))]) (pl_b3 h ⟨⟨l⟩⟩ f u i B2 n g2 hu (by omega) (by show l.length < 4000;omega) hlt hlb (decide_eq_false (by rw[hbe];omega)) (decide_eq_false (by rw[hbe];omega)) (decide_eq_true (by omega)))
  have hb:=pl_on h ⟨⟨l⟩⟩ f u i B2 n g2 hu (by omega) (by show l.length < 4000;omega) hlt (by omega) (by rw[hbe];omega) (by rw[hbe];omega) hlb (decide_eq_false (by rw[hbe];omega)) (decide_eq_false (by rw[hbe];omega)) (decide_eq_false (by omega))
  rw[hbe,show(((u:Nat):Int) * 10)+(((b.toNat:Nat):Int) - 48)=((u * 10+(b.toNat - 48):Nat):Int) by omega] at hb
  have hlb2:=b.toNat_lt
  obtain⟨hL,R,hR,nL,gL,wL,M⟩:=ih (i+1) (u * 10+(b.toNat - 48)) h (by rw[← List.drop_drop,hr];rfl) (by omega) (by omega) g2
  have e:foldD (b::rest) u=foldD rest (u * 10+(b.toNat - 48)):=by
   show(match stepD u b with|some a'=>foldD rest a'|none=>none)=_
   have:stepD u b=some (u * 10+(b.toNat - 48)):=by unfold stepD;rw[if_neg (by omega)]
   rw[this]
  rw[e]
  refine⟨hL,R+1,by rw[List.length_cons];omega,nL,gL,wL,?_⟩
  split at M
  next=>exact⟨M.1,.on hb M.2⟩
  next=>exact .on hb M
end Go.PanE
