/-
 Part 14 of the proof of Rows.DumpLinesCardSaid. No conditions.
-/
import Derived.Test.YtihkphfmnnndfaaGreatDoorT13
import Derived.LaidEql
import Derived.RowKitTokens
import Derived.Stop.Asserts
import Derived.Test.YtihkphfmnnndfaaGreatDoorProg
import Derived.WalkKit
namespace Go.Proofs.AsSource
open Go.RowKit Go.Extern.Stop Go.Stop Go.Extern
theorem eql_nil(e:Value)(w:World):(binOp BinOp.eql 84 Value.nilIface (Value.iface 309 e)).run Tryz.prog w= .ok (.bool false) w:=by kernel_rfl
set_option maxRecDepth 100000 in
theorem is_nil(e:Value)(w:World):Calls Tryz.prog 75 #[.nilIface,.iface 309 e] w fun ev w'=>ev= .returned (.bool false)∧w'=w:=by
 have q:=eql_nil e
 go_enter Tryz.func75,Tryz.ntmps75
 go_wp2
 go_ret
 exact⟨rfl,rfl⟩
theorem typeOf309s(v:Value)(w:World):(ReflectliteType.typeOf #[.iface 309 v]).run Tryz.prog w= .ok (.iface 168 (.agg #[.pointer (some ⟨10,309,none⟩)])) w:=by kernel_rfl
theorem methodComparable(h:Value)(w:World):(Go.method 462 168 (.agg #[h]) "Comparable").run Tryz.prog w= .ok (283,.agg #[h]) w:=by kernel_rfl
theorem comparable309(w:World):(ReflectliteType.method (fun t=>do Rtype.noPackHeld "Comparable" t;(fun a=>Value.bool a.comparable) <$> typeInfo t) #[.agg #[.pointer (some ⟨10,309,none⟩)]]).run Tryz.prog w= .ok (.bool true) w:=by kernel_rfl
theorem eql_same(e:Addr)(w:World):(binOp BinOp.eql 84 (.iface 309 (.pointer (some e))) (.iface 309 (.pointer (some e)))).run Tryz.prog w= .ok (.bool true) w:=
 run_eql_iface_ptr_same _ e Tryz.underlying84 Tryz.underlying309 (i:=Tryz.t309) (by kernel_rfl) (by kernel_rfl) (j:=Tryz.t311) (by kernel_rfl)
set_option maxRecDepth 100000 in
set_option maxHeartbeats 4000000 in
theorem is_same(e:Addr)(w:World):Calls Tryz.prog 75 #[.iface 309 (.pointer (some e)),.iface 309 (.pointer (some e))] w fun ev w'=>ev= .returned (.bool true)∧w'=w:=by
 have h86:=@run_callFunc_extern Tryz.prog 86 _ ReflectliteType.typeOf Tryz.func86 (by kernel_rfl) (by kernel_rfl) (by kernel_rfl) (by kernel_rfl)
 have h283:=@run_callFunc_extern Tryz.prog 283 _ (ReflectliteType.method fun t=>do Rtype.noPackHeld "Comparable" t;pure (.bool (← typeInfo t).comparable)) Tryz.func283 (by kernel_rfl) (by kernel_rfl) (by kernel_rfl) (by kernel_rfl)
 have tO:=typeOf309s
 have mC:=methodComparable
 have c9:=comparable309
 have q:=eql_same e
 go_enter Tryz.func75,Tryz.ntmps75
 go_wp2
 refine wp_loop_rounds 1 ?_
 rw[rounds_succ]
 go_wp2
 go_ret
 exact⟨rfl,rfl⟩
end Go.Proofs.AsSource
