/-
 Part 16 of the proof of Rows.DumpLinesCardSaid. No conditions.
-/
import Derived.Test.YtihkphfmnnndfaaGreatDoorT13
import Derived.Below
import Derived.LaidEql
import Derived.Lib.SmallJoins
import Derived.RowKitTokens
import Derived.Stop.Asserts
import Derived.Test.YtihkphfmnnndfaaGreatDoorProg
import Derived.WalkKit
namespace Go.Proofs.AsSource
open Go.RowKit Go.Extern.Stop Go.Stop Go.Extern
theorem Tas.typeOf309(v:Value)(w:World):(ReflectliteType.typeOf #[.iface 309 v]).run Tryz.prog w= .ok (.iface 168 (.agg #[.pointer (some ⟨10,309,none⟩)])) w:=by kernel_rfl
theorem Tas.assignable309(w:World):(ReflectliteType.relation "AssignableTo" ReflectliteType.assignableTo #[.agg #[.pointer (some ⟨10,309,none⟩)],.iface 168 (.agg #[.pointer (some ⟨10,149,none⟩)])]).run Tryz.prog w= .ok (.bool false) w:=by kernel_rfl
theorem Tas.no173(v:Value)(xT:TypeId)(w:World):(Instr.typeAssert (.iface 309 v) xT 173 true).run Tryz.prog w= .ok (.tuple #[.nilIface,.bool false]) w:=run_typeAssert_lacksB Tryz.underlying173 (by kernel_rfl) (by kernel_rfl) v xT w
theorem Tas.no176(v:Value)(xT:TypeId)(w:World):(Instr.typeAssert (.iface 309 v) xT 176 true).run Tryz.prog w= .ok (.tuple #[.nilIface,.bool false]) w:=run_typeAssert_lacksB Tryz.underlying176 (by kernel_rfl) (by kernel_rfl) v xT w
theorem Tas.no178(v:Value)(xT:TypeId)(w:World):(Instr.typeAssert (.iface 309 v) xT 178 true).run Tryz.prog w= .ok (.tuple #[.nilIface,.bool false]) w:=run_typeAssert_lacksB Tryz.underlying178 (by kernel_rfl) (by kernel_rfl) v xT w
theorem hS:P2 149 150:=.inl ⟨rfl,rfl⟩
set_option maxRecDepth 100000 in
set_option maxHeartbeats 4000000 in
theorem as_miss(e t:Addr)(old:Value)(w:World)(hg:w.cell? ⟨0,0,none⟩=some (.iface 168 (.agg #[.pointer (some ⟨10,84,none⟩)])))(ht0:w.cell? t=some old):
  Calls Tryz.prog 33 #[.iface 309 (.pointer (some e)),.iface 150 (.pointer (some t))] w fun ev w'=>ev= .returned (.bool false)∧Below w.heap.size w w':=by
 have h6:=@run_callFunc_extern Tryz.prog 55 _ (fun args=>ReflectliteValue.unpack (args.getD 0 (.tuple #[]))) Tryz.func55 (by kernel_rfl) (by kernel_rfl) (by kernel_rfl) (by kernel_rfl)
 have h7:=@run_callFunc_extern Tryz.prog 56 _ (ReflectliteValue.methodAny (ReflectliteValue.valueError "reflectlite.Value.Type" 0) (fun t _ _ _=>ReflectliteType.toType t)) Tryz.func56 (by kernel_rfl) (by kernel_rfl) (by kernel_rfl) (by kernel_rfl)
 have h8:=@run_callFunc_extern Tryz.prog 57 _ (ReflectliteValue.method (ReflectliteValue.valueError "reflectlite.Value.IsNil" 0) ReflectliteValue.isNil) Tryz.func57 (by kernel_rfl) (by kernel_rfl) (by kernel_rfl) (by kernel_rfl)
 have h27:=@run_callFunc_extern Tryz.prog 270 _ (ReflectliteType.abiMethod fun t=>do pure (.int .u8 (← Rtype.kind t))) Tryz.func270 (by kernel_rfl) (by kernel_rfl) (by kernel_rfl) (by kernel_rfl)
 have h37:=@run_callFunc_extern Tryz.prog 284 _ (ReflectliteType.method ReflectliteType.elem) Tryz.func284 (by kernel_rfl) (by kernel_rfl) (by kernel_rfl) (by kernel_rfl)
 have h38:=@run_callFunc_extern Tryz.prog 285 _ (ReflectliteType.relation "Implements" ReflectliteType.implements_) Tryz.func285 (by kernel_rfl) (by kernel_rfl) (by kernel_rfl) (by kernel_rfl)
 have h10:=@run_callFunc_extern Tryz.prog 86 _ ReflectliteType.typeOf Tryz.func86 (by kernel_rfl) (by kernel_rfl) (by kernel_rfl) (by kernel_rfl)
 have h35:=@run_callFunc_extern Tryz.prog 282 _ (ReflectliteType.relation "AssignableTo" ReflectliteType.assignableTo) Tryz.func282 (by kernel_rfl) (by kernel_rfl) (by kernel_rfl) (by kernel_rfl)
 have h11:=@run_callFunc_extern Tryz.prog 87 _ (ReflectliteValue.method (ReflectliteValue.valueError "reflectlite.Value.Elem" 0) ReflectliteValue.elem) Tryz.func87 (by kernel_rfl) (by kernel_rfl) (by kernel_rfl) (by kernel_rfl)
 have h12:=@run_callFunc_extern Tryz.prog 88 _ ReflectliteValue.set Tryz.func88 (by kernel_rfl) (by kernel_rfl) (by kernel_rfl) (by kernel_rfl)
 have n173:=Tas.no173
 have n176:=Tas.no176
 have n178:=Tas.no178
 have tO:=Tas.typeOf309
 have mA:=Tas.methodAssignableTo
 have a25:=Tas.assignable309
 have f6:=Tas.valueOf27 hS
 have f7:=Tas.type27 hS
 have mK:=Tas.methodKind
 have mE:=Tas.methodElem
 have mI:=Tas.methodImplements
 have k27:=Tas.kind27 hS
 have k25:=Tas.kind25 hS
 have e27:=Tas.elem27 hS
 have i25:=Tas.implements25 hS
 have n8:=Tas.isNil27 hS ⟨w.heap.size,0,none⟩ t ((w.alloc (.cells #[.pointer (some t)] 150)).alloc (.cells #[.pointer (some ⟨10,150,none⟩),.pointer (some ⟨w.heap.size,0,none⟩),.int .u64 150] 126)) (by simp)
 have hlt:0 < w.heap.size:=by
  rcases Nat.eq_zero_or_pos w.heap.size with h0|h
  ·simp[World.cell?,h0] at hg
  ·exact h
 have hg2:((w.alloc (.cells #[.pointer (some t)] 150)).alloc (.cells #[.pointer (some ⟨10,150,none⟩),.pointer (some ⟨w.heap.size,0,none⟩),.int .u64 150] 126)).cell? ⟨0,0,none⟩=some (.iface 168 (.agg #[.pointer (some ⟨10,84,none⟩)])):=by
  rw[World.cell?_alloc_lt _ _ ⟨0,0,none⟩ (by simp),World.cell?_alloc_lt _ _ ⟨0,0,none⟩ hlt];exact hg
 have htl:t.block < w.heap.size:=by
  rcases Nat.lt_or_ge t.block w.heap.size with h|h
  ·exact h
  ·simp[World.cell?,Array.getElem?_eq_none h] at ht0
 have el:=Tas.elemV27 hS ⟨w.heap.size,0,none⟩ t (((w.alloc (.cells #[.pointer (some t)] 150)).alloc (.cells #[.pointer (some ⟨10,150,none⟩),.pointer (some ⟨w.heap.size,0,none⟩),.int .u64 150] 126)).alloc (.cells #[.pointer (some ⟨10,150,none⟩),.pointer (some ⟨w.heap.size,0,none⟩),.int .u64 150] 126)) (by rw[World.cell?_alloc_lt _ _ ⟨w.heap.size,0,none⟩ (by simp;omega)];simp)
 go_enter Tryz.func33,Tryz.ntmps33
 go_wp2
 refine wp_loop_rounds 1 ?_
 rw[rounds_succ]
 go_wp2
 go_ret
 refine⟨rfl,?_⟩
 exact Joins.below_alloc3 w _ _ _
end Go.Proofs.AsSource
