/-
 Part 13 of the proof of Rows.DumpLinesCardSaid. No conditions.
-/
import Derived.LaidEql
import Derived.RowKitTokens
import Derived.Stop.Asserts
import Derived.Test.YtihkphfmnnndfaaGreatDoorProg
import Derived.WalkKit
namespace Go.Proofs.AsSource
open Go.RowKit Go.Extern.Stop Go.Stop Go.Extern
theorem as_nil(t:Value)(w:World):
  Calls Tryz.prog 33 #[.nilIface,t] w fun e w'=>e= .returned (.bool false)∧w'=w:=by
 go_enter Tryz.func33,Tryz.ntmps33
 go_wp2
 go_ret
 exact⟨rfl,rfl⟩
def P2(E P:TypeId):Prop:=(E=149∧P=150)∨(E=242∧P=243)
theorem P2.un{E P:TypeId}(h:P2 E P):Tryz.prog.underlying P=some (.pointer E):=by rcases h with⟨rfl,rfl⟩|⟨rfl,rfl⟩ <;>kernel_rfl
theorem P2.ue{E P:TypeId}(h:P2 E P):∃ x,Tryz.prog.underlying E=some (.pointer x):=by
 rcases h with⟨rfl,rfl⟩|⟨rfl,rfl⟩
 ·exact⟨_,Tryz.underlying149⟩
 ·exact⟨_,Tryz.underlying242⟩
theorem Tas.valueOf27{E P:TypeId}(hp:P2 E P)(t:Addr)(w:World):(ReflectliteValue.unpack (.iface P (.pointer (some t)))).run Tryz.prog w
  = .ok (.agg #[.pointer (some ⟨10,P,none⟩),.pointer (some ⟨w.heap.size,0,none⟩),.int .u64 150]) (w.alloc (.cells #[.pointer (some t)] P)):=by rcases hp with⟨rfl,rfl⟩|⟨rfl,rfl⟩ <;>kernel_rfl
theorem Tas.type27{E P:TypeId}(hp:P2 E P)(a:Addr)(w:World):(ReflectliteValue.methodAny (ReflectliteValue.valueError "reflectlite.Value.Type" 0) (fun t _ _ _=>ReflectliteType.toType t) #[.agg #[.pointer (some ⟨10,P,none⟩),.pointer (some a),.int .u64 150]]).run Tryz.prog w
  = .ok (.iface 168 (.agg #[.pointer (some ⟨10,P,none⟩)])) w:=by rcases hp with⟨rfl,rfl⟩|⟨rfl,rfl⟩ <;>kernel_rfl
theorem Tas.methodKind(h:Value)(w:World):(Go.method 462 168 (.agg #[h]) "Kind").run Tryz.prog w= .ok (270,h) w:=by kernel_rfl
theorem Tas.kind27{E P:TypeId}(hp:P2 E P)(w:World):((ReflectliteType.abiMethod fun t=>(fun a:Nat=>Value.int IntKind.u8 (a:Int)) <$> Rtype.kind t) #[.pointer (some ⟨10,P,none⟩)]).run Tryz.prog w= .ok (.int .u8 22) w:=by rcases hp with⟨rfl,rfl⟩|⟨rfl,rfl⟩ <;>kernel_rfl
theorem Tas.kind25{E P:TypeId}(hp:P2 E P)(w:World):((ReflectliteType.abiMethod fun t=>(fun a:Nat=>Value.int IntKind.u8 (a:Int)) <$> Rtype.kind t) #[.pointer (some ⟨10,E,none⟩)]).run Tryz.prog w= .ok (.int .u8 22) w:=by rcases hp with⟨rfl,rfl⟩|⟨rfl,rfl⟩ <;>kernel_rfl
theorem rlm(z:Sem Value)(f:TypeId→Addr→Nat→Nat→Sem Value)(v:Value):
  ReflectliteValue.method z f #[v]=(do match ← ReflectliteValue.parts v with|none=>z|some (t,a,fl)=>f t a fl (fl % 32)):=rfl
theorem Tas.parts27{E P:TypeId}(hp:P2 E P)(a:Addr)(w:World):(ReflectliteValue.parts (.agg #[.pointer (some ⟨10,P,none⟩),.pointer (some a),.int .u64 150])).run Tryz.prog w= .ok (some (P,a,150)) w:=by rcases hp with⟨rfl,rfl⟩|⟨rfl,rfl⟩ <;>kernel_rfl
theorem Tas.isNil27{E P:TypeId}(hp:P2 E P)(a p:Addr)(W:World)(ha:W.cell? a=some (.pointer (some p))):
  (ReflectliteValue.method (ReflectliteValue.valueError "reflectlite.Value.IsNil" 0) ReflectliteValue.isNil #[.agg #[.pointer (some ⟨10,P,none⟩),.pointer (some a),.int .u64 150]]).run Tryz.prog W= .ok (.bool false) W:=by
 rw[rlm]
 simp only[Sem.run_bind,Tas.parts27 hp,Result.andThen]
 simp[ReflectliteValue.isNil,loadVar,isAgg,underlying,hp.un,ha,Result.andThen]
theorem Tas.methodElem(h:Value)(w:World):(Go.method 462 168 (.agg #[h]) "Elem").run Tryz.prog w= .ok (284,.agg #[h]) w:=by kernel_rfl
theorem Tas.methodImplements(h:Value)(w:World):(Go.method 462 168 (.agg #[h]) "Implements").run Tryz.prog w= .ok (285,.agg #[h]) w:=by kernel_rfl
theorem Tas.methodAssignableTo(h:Value)(w:World):(Go.method 462 168 (.agg #[h]) "AssignableTo").run Tryz.prog w= .ok (282,.agg #[h]) w:=by kernel_rfl
theorem Tas.elem27{E P:TypeId}(hp:P2 E P)(w:World):(ReflectliteType.method ReflectliteType.elem #[.agg #[.pointer (some ⟨10,P,none⟩)]]).run Tryz.prog w= .ok (.iface 168 (.agg #[.pointer (some ⟨10,E,none⟩)])) w:=by rcases hp with⟨rfl,rfl⟩|⟨rfl,rfl⟩ <;>kernel_rfl
theorem Tas.implements25{E P:TypeId}(hp:P2 E P)(w:World):(ReflectliteType.relation "Implements" ReflectliteType.implements_ #[.agg #[.pointer (some ⟨10,E,none⟩)],.iface 168 (.agg #[.pointer (some ⟨10,84,none⟩)])]).run Tryz.prog w= .ok (.bool true) w:=by rcases hp with⟨rfl,rfl⟩|⟨rfl,rfl⟩ <;>kernel_rfl
theorem Tas.typeOf25{E P:TypeId}(hp:P2 E P)(v:Value)(w:World):(ReflectliteType.typeOf #[.iface E v]).run Tryz.prog w= .ok (.iface 168 (.agg #[.pointer (some ⟨10,E,none⟩)])) w:=by rcases hp with⟨rfl,rfl⟩|⟨rfl,rfl⟩ <;>kernel_rfl
theorem Tas.assignable25{E P:TypeId}(hp:P2 E P)(w:World):(ReflectliteType.relation "AssignableTo" ReflectliteType.assignableTo #[.agg #[.pointer (some ⟨10,E,none⟩)],.iface 168 (.agg #[.pointer (some ⟨10,E,none⟩)])]).run Tryz.prog w= .ok (.bool true) w:=by rcases hp with⟨rfl,rfl⟩|⟨rfl,rfl⟩ <;>kernel_rfl
theorem Tas.valueOf25{E P:TypeId}(hp:P2 E P)(e:Addr)(w:World):(ReflectliteValue.unpack (.iface E (.pointer (some e)))).run Tryz.prog w
  = .ok (.agg #[.pointer (some ⟨10,E,none⟩),.pointer (some ⟨w.heap.size,0,none⟩),.int .u64 150]) (w.alloc (.cells #[.pointer (some e)] E)):=by rcases hp with⟨rfl,rfl⟩|⟨rfl,rfl⟩ <;>kernel_rfl
theorem Tas.elemOf27{E P:TypeId}(hp:P2 E P)(w:World):(Rtype.elem? P).run Tryz.prog w= .ok (some E) w:=by rcases hp with⟨rfl,rfl⟩|⟨rfl,rfl⟩ <;>kernel_rfl
theorem Tas.mk25{E P:TypeId}(hp:P2 E P)(p:Addr)(w:World):(ReflectliteValue.mk E p ReflectliteValue.flagAddr).run Tryz.prog w= .ok (.agg #[.pointer (some ⟨10,E,none⟩),.pointer (some p),.int .u64 406]) w:=by rcases hp with⟨rfl,rfl⟩|⟨rfl,rfl⟩ <;>kernel_rfl
theorem Tas.elemV27{E P:TypeId}(hp:P2 E P)(a p:Addr)(W:World)(ha:W.cell? a=some (.pointer (some p))):
  (ReflectliteValue.method (ReflectliteValue.valueError "reflectlite.Value.Elem" 0) ReflectliteValue.elem #[.agg #[.pointer (some ⟨10,P,none⟩),.pointer (some a),.int .u64 150]]).run Tryz.prog W
   = .ok (.agg #[.pointer (some ⟨10,E,none⟩),.pointer (some p),.int .u64 406]) W:=by
 rw[rlm]
 simp only[Sem.run_bind,Tas.parts27 hp,Result.andThen]
 simp[ReflectliteValue.elem,loadVar,isAgg,underlying,hp.un,ha,Result.andThen,Tas.elemOf27 hp,Tas.mk25 hp]
theorem rls(v x:Value):ReflectliteValue.set #[v,x]=(do
  let(some (dst,a,fl),some (src,b,_)):=(← ReflectliteValue.parts v,← ReflectliteValue.parts x)
   |unsupported (.noEntry "extern/(internal/reflectlite.Value).Set.zeroValue")
  if fl / ReflectliteValue.flagAddr % 2==0 then unsupported (.noEntry "extern/(internal/reflectlite.Value).Set.unaddressable")
  let val ← loadVar src b
  if ← Rtype.directlyAssignable dst src then storeVar dst a val
  else if ← Rtype.implements dst src then
   if(← Rtype.kind src)==20 then
    match val with
    | .nilIface=>unsupported (.noEntry "extern/reflectlite: a nil value of one interface type handed on as a value of another")
    |_=>storeVar dst a val
   else storeVar dst a (.iface src val)
  else panicString ("reflectlite.Set: value of type " ++(← Rtype.spelt src)++ " is not assignable to type " ++(← Rtype.spelt dst))
  pure (.tuple #[])):=rfl
theorem Tas.parts25a{E P:TypeId}(hp:P2 E P)(a:Addr)(w:World):(ReflectliteValue.parts (.agg #[.pointer (some ⟨10,E,none⟩),.pointer (some a),.int .u64 406])).run Tryz.prog w= .ok (some (E,a,406)) w:=by rcases hp with⟨rfl,rfl⟩|⟨rfl,rfl⟩ <;>kernel_rfl
theorem Tas.parts25{E P:TypeId}(hp:P2 E P)(a:Addr)(w:World):(ReflectliteValue.parts (.agg #[.pointer (some ⟨10,E,none⟩),.pointer (some a),.int .u64 150])).run Tryz.prog w= .ok (some (E,a,150)) w:=by rcases hp with⟨rfl,rfl⟩|⟨rfl,rfl⟩ <;>kernel_rfl
theorem Tas.direct25{E P:TypeId}(hp:P2 E P)(w:World):(Rtype.directlyAssignable E E).run Tryz.prog w= .ok true w:=by rcases hp with⟨rfl,rfl⟩|⟨rfl,rfl⟩ <;>kernel_rfl
theorem Tas.size25{E P:TypeId}(hp:P2 E P)(w:World):(sizeOf E).run Tryz.prog w= .ok 1 w:=by rcases hp with⟨rfl,rfl⟩|⟨rfl,rfl⟩ <;>kernel_rfl
theorem Tas.set25{E P:TypeId}(hp:P2 E P)(ta b e:Addr)(old:Value)(W:World)(hb:W.cell? b=some (.pointer (some e)))(ht:W.cell? ta=some old)(hf:W.frozen? ta=false):
  (ReflectliteValue.set #[.agg #[.pointer (some ⟨10,E,none⟩),.pointer (some ta),.int .u64 406],.agg #[.pointer (some ⟨10,E,none⟩),.pointer (some b),.int .u64 150]]).run Tryz.prog W
   = .ok (.tuple #[]) (W.setCell ta (.pointer (some e))):=by
 obtain⟨x,hx⟩:=hp.ue
 rw[rls]
 simp only[Sem.run_bind,Tas.parts25a hp,Tas.parts25 hp,Result.andThen]
 simp[ReflectliteValue.flagAddr,loadVar,isAgg,underlying,hx,hb,Result.andThen,Tas.direct25 hp,Tas.size25 hp,storeVar,Value.cells,storeCells,Addr.add]
 rw[run_store Tryz.prog W ta _ _ (by rfl)]
 simp[ht,hf]
set_option maxHeartbeats 4000000 in
theorem as_hit{E P:TypeId}(hp:P2 E P)(e t:Addr)(old:Value)(w:World)(hg:w.cell? ⟨0,0,none⟩=some (.iface 168 (.agg #[.pointer (some ⟨10,84,none⟩)])))(ht0:w.cell? t=some old)(hf0:w.frozen? t=false):
  Calls Tryz.prog 33 #[.iface E (.pointer (some e)),.iface P (.pointer (some t))] w fun ev w'=>ev= .returned (.bool true)∧w'=((((w.alloc (.cells #[.pointer (some t)] P)).alloc (.cells #[.pointer (some ⟨10,P,none⟩),.pointer (some ⟨w.heap.size,0,none⟩),.int .u64 150] 126)).alloc (.cells #[.pointer (some ⟨10,P,none⟩),.pointer (some ⟨w.heap.size,0,none⟩),.int .u64 150] 126)).alloc (.cells #[.pointer (some e)] E)).setCell t (.pointer (some e)):=by
 have h6:=@run_callFunc_extern Tryz.prog 55 _ (fun args=>ReflectliteValue.unpack (args.getD 0 (.tuple #[]))) Tryz.func55 (by kernel_rfl) (by kernel_rfl) (by kernel_rfl) (by kernel_rfl)
 have h7:=@run_callFunc_extern Tryz.prog 56 _ (ReflectliteValue.methodAny (ReflectliteValue.valueError "reflectlite.Value.Type" 0) (fun t _ _ _=>ReflectliteType.toType t)) Tryz.func56 (by kernel_rfl) (by kernel_rfl) (by kernel_rfl) (by kernel_rfl)
 have h8:=@run_callFunc_extern Tryz.prog 57 _ (ReflectliteValue.method (ReflectliteValue.valueError "reflectlite.Value.IsNil" 0) ReflectliteValue.isNil) Tryz.func57 (by kernel_rfl) (by kernel_rfl) (by kernel_rfl) (by kernel_rfl)
 have h27:=@run_callFunc_extern Tryz.prog 270 _ (ReflectliteType.abiMethod fun t=>do pure (.int .u8 (← Rtype.kind t))) Tryz.func270 (by kernel_rfl) (by kernel_rfl) (by kernel_rfl) (by kernel_rfl)
 have h37:=@run_callFunc_extern Tryz.prog 284 _ (ReflectliteType.method ReflectliteType.elem) Tryz.func284 (by kernel_rfl) (by kernel_rfl) (by kernel_rfl) (by kernel_rfl)
 have h38:=@run_callFunc_extern Tryz.prog 285 _ (ReflectliteType.relation "Implements" ReflectliteType.implements_) Tryz.func285 (by kernel_rfl) (by kernel_rfl) (by kernel_rfl) (by kernel_rfl)
 have h10:=@run_callFunc_extern Tryz.prog 86 _ ReflectliteType.typeOf Tryz.func86 (by kernel_rfl) (by kernel_rfl) (by kernel_rfl) (by kernel_rfl)
 have h35:=@run_callFunc_extern Tryz.prog 282 _ (ReflectliteType.relation "AssignableTo" ReflectliteType.assignableTo) Tryz.func282 (by kernel_rfl) (by kernel_rfl) (by kernel_rfl) (by kernel_rfl)
 have h11:=@run_callFunc_extern Tryz.prog 87 _ (ReflectliteValue.method (ReflectliteValue.valueError "reflectlite.Value.Elem" 0) ReflectliteValue.elem) Tryz.func87 (by kernel_rfl) (by kernel_rfl) (by kernel_rfl) (by kernel_rfl)
 have h12:=@run_callFunc_extern Tryz.prog 88 _ ReflectliteValue.set Tryz.func88 (by kernel_rfl) (by kernel_rfl) (by kernel_rfl) (by kernel_rfl)
 have tO:=Tas.typeOf25 hp
 have mA:=Tas.methodAssignableTo
 have a25:=Tas.assignable25 hp
 have v25:=Tas.valueOf25 hp
 have f6:=Tas.valueOf27 hp
 have f7:=Tas.type27 hp
 have mK:=Tas.methodKind
 have mE:=Tas.methodElem
 have mI:=Tas.methodImplements
 have k27:=Tas.kind27 hp
 have k25:=Tas.kind25 hp
 have e27:=Tas.elem27 hp
 have i25:=Tas.implements25 hp
 have n8:=Tas.isNil27 hp ⟨w.heap.size,0,none⟩ t ((w.alloc (.cells #[.pointer (some t)] P)).alloc (.cells #[.pointer (some ⟨10,P,none⟩),.pointer (some ⟨w.heap.size,0,none⟩),.int .u64 150] 126)) (by simp)
 have hlt:0 < w.heap.size:=by
  rcases Nat.eq_zero_or_pos w.heap.size with h0|h
  ·simp[World.cell?,h0] at hg
  ·exact h
 have hg2:((w.alloc (.cells #[.pointer (some t)] P)).alloc (.cells #[.pointer (some ⟨10,P,none⟩),.pointer (some ⟨w.heap.size,0,none⟩),.int .u64 150] 126)).cell? ⟨0,0,none⟩=some (.iface 168 (.agg #[.pointer (some ⟨10,84,none⟩)])):=by
  rw[World.cell?_alloc_lt _ _ ⟨0,0,none⟩ (by simp),World.cell?_alloc_lt _ _ ⟨0,0,none⟩ hlt];exact hg
 have htl:t.block < w.heap.size:=by
  rcases Nat.lt_or_ge t.block w.heap.size with h|h
  ·exact h
  ·simp[World.cell?,Array.getElem?_eq_none h] at ht0
 have el:=Tas.elemV27 hp ⟨w.heap.size,0,none⟩ t (((w.alloc (.cells #[.pointer (some t)] P)).alloc (.cells #[.pointer (some ⟨10,P,none⟩),.pointer (some ⟨w.heap.size,0,none⟩),.int .u64 150] 126)).alloc (.cells #[.pointer (some ⟨10,P,none⟩),.pointer (some ⟨w.heap.size,0,none⟩),.int .u64 150] 126)) (by rw[World.cell?_alloc_lt _ _ ⟨w.heap.size,0,none⟩ (by simp;omega)];simp)
 have st:=Tas.set25 hp t ⟨w.heap.size+1+1+1,0,none⟩ e old ((((w.alloc (.cells #[.pointer (some t)] P)).alloc (.cells #[.pointer (some ⟨10,P,none⟩),.pointer (some ⟨w.heap.size,0,none⟩),.int .u64 150] 126)).alloc (.cells #[.pointer (some ⟨10,P,none⟩),.pointer (some ⟨w.heap.size,0,none⟩),.int .u64 150] 126)).alloc (.cells #[.pointer (some e)] E))
  (by rw[World.cell?_alloc_at _ _ _ _ (by simp)];rfl)
  (by rw[World.cell?_alloc_lt _ _ t (by simp;omega),World.cell?_alloc_lt _ _ t (by simp;omega),World.cell?_alloc_lt _ _ t (by simp;omega),World.cell?_alloc_lt _ _ t htl];exact ht0)
  (by rw[World.frozen?_alloc_old _ _ t (by simp;omega),World.frozen?_alloc_old _ _ t (by simp;omega),World.frozen?_alloc_old _ _ t (by simp;omega),World.frozen?_alloc_old _ _ t (Nat.ne_of_lt htl)];exact hf0)
 go_enter Tryz.func33,Tryz.ntmps33
 go_wp2
 refine wp_loop_rounds 1 ?_
 rw[rounds_succ]
 go_wp2
 go_ret
 exact⟨rfl,rfl⟩
end Go.Proofs.AsSource
