/-
 Part 5 of the proof of Rows.DumpReadsCardSaid: Operations that make one new object: the block that they make is what the small machine's object says. Under the condition that it asks the program truly (EnvOK).
 Stores, appends, copies, steps of a range over a text: what the small machine makes of its memory is what becomes of the world. Under the condition that it asks the program truly (EnvOK).
 append: whatever capacity the model draws, the small machine's new row is what there is. Under the condition that it asks the program truly (EnvOK).
 append, all its ways. Under the condition that the small machine asks the program truly (EnvOK).
-/
import Derived.Test.YtihkphfmnnndfaaGreatDoorT04
namespace Go.PanE
section
variable {P:Program} {env:Env} {μ:Loc} {h:Heap} {w:World} {tm:T Value} {tmps:Array Value}
/-- What a new block is. -/
structure NewObj(μ:Loc)(w u:World)(p:Place)(o:AObj)(mk:Nat→Value)(v':Value):Prop where
 pb:p.pb=w.heap.size
 size:u.heap.size=w.heap.size+1
 old:∀ k,k < w.heap.size→u.heap[k]? =w.heap[k]?
 os:u.os=w.os
 out:u.output=w.output
 tape:u.tape=w.tape
 rel:∀ ν b,μ.le ν→ν b=some p→ORel ν u p o∧VRel ν (mk b) v'
theorem NewObj.go{p:Place}{o:AObj}{mk:Nat→Value}{v':Value}{u:World}(R:Rep μ h w)(n:NewObj μ w u p o mk v'):
  Go1 μ h w (μ.upd h.nx p) (h.alloc o) u∧VRel (μ.upd h.nx p) (mk h.nx) v':=by
 have r:=n.rel (μ.upd h.nx p) h.nx (Loc.le_upd (R.fresh _ (Nat.le_refl _))) (Loc.upd_same _ _ _)
 exact⟨go_alloc R n.size n.old n.os n.out n.tape n.pb r.1,r.2⟩
/-- A row of known cells. -/
theorem row_rel{ν:Loc}{u:World}{t:TypeId}{cells cells':List Value}{p:Place}{fr:Nat×Nat}(arr:Array Value)(hh:u.heap[p.pb]? =some (.cells arr t fr))(ha:arr.toList=cells')
  (hr:LRel ν cells cells') (h0:p.po=0) (h1:p.size=cells.length) (h2:p.extra=0) (h3:p.es=0) (hf:fr=(0,0)):ORel ν u p (.row t cells 0 false):=by
 refine⟨arr,fr,hh,h1,h3,?_,⟨fun _=>h2,fun _=>h0⟩,?_,?_⟩
 ·have:=congrArg List.length ha
  have hl:=hr.1
  simp at this
  omega
 ·rw[h0,h1,List.drop_zero,ha,hr.1,List.take_length]
  exact hr
 ·refine⟨?_,fun h=>by cases h⟩
  intro _ i _ hh
  subst hf
  simp at hh
theorem new_var(t:TypeId)(cells:List Value)(v':Value)(hr:LRel μ cells v'.cells.toList):
  ∃ p:Place,(do pure (.pointer (some (← newVar t v'))):Sem Value).run P w= .ok (.pointer (some ⟨w.heap.size,0,none⟩)) (w.alloc (.cells v'.cells t))∧
   NewObj μ w (w.alloc (.cells v'.cells t)) p (.row t cells 0 false) (fun b=>.pointer (some ⟨b,0,none⟩)) (.pointer (some ⟨w.heap.size,0,none⟩)):=by
 refine⟨⟨w.heap.size,0,cells.length,0,0⟩,?_,⟨rfl,by simp,fun k hk=>heap_alloc_old w _ k hk,rfl,rfl,rfl,?_⟩⟩
 ·simp[newVar,newRow]
 ·intro ν b hle hb
  refine⟨row_rel v'.cells (heap_alloc_new w _) rfl (hr.mono hle) rfl rfl rfl rfl rfl,?_⟩
  exact .ptr b 0 _ hb
theorem rep_rel{ν:Loc}{z z':List Value}(r:LRel ν z z'):∀ n,LRel ν (rep n z) (rep n z'):=by
 intro n
 induction n with
 |zero=>exact .nil
 |succ n ih=>exact r.append ih
theorem rep_eq(z:Array Value):∀ n,((Array.range (n * z.size)).map (fun i=>z[i % z.size]!)).toList=rep n z.toList:=by
 intro n
 apply List.ext_getElem?
 intro i
 have key:∀ n i,(rep n z.toList)[i]? =if i < n * z.size then some z[i % z.size]! else none:=by
  intro n
  induction n with
  |zero=>intro i;simp[rep]
  |succ n ih=>
   intro i
   simp only[rep]
   by_cases hi:i < z.size
   ·rw[List.getElem?_append_left (by simpa using hi)]
    rw[if_pos (by rw[Nat.succ_mul];omega),Nat.mod_eq_of_lt hi]
    simp[hi]
   ·rw[List.getElem?_append_right (by simpa using hi)]
    rw[Array.length_toList,ih]
    have hm:(i - z.size) % z.size=i % z.size:=by
     rw[← Nat.mod_eq_sub_mod (by omega)]
    rw[hm]
    by_cases hlt:i < (n+1) * z.size
    ·rw[if_pos hlt,if_pos (by rw[Nat.succ_mul] at hlt;omega)]
    ·rw[if_neg hlt,if_neg (by rw[Nat.succ_mul] at hlt;omega)]
 rw[key]
 simp only[Array.toList_map,Array.toList_range,List.getElem?_map]
 by_cases hlt:i < n * z.size
 ·simp[hlt]
 ·simp[hlt]
theorem rd_int(TR:TRel μ tm tmps){ds:List Deferred}{x:Operand}{k:IntKind}{n:Int}(e:rd tm x=some (.int k n)):Act.eval ⟨tmps,ds⟩ x= .int k n:=by
 have r:=rd_ok (ds:=ds) TR e
 generalize Act.eval ⟨tmps,ds⟩ x=v at r
 cases r;rfl
theorem rd_str(TR:TRel μ tm tmps){ds:List Deferred}{x:Operand}{s:ByteArray}(e:rd tm x=some (.string s)):Act.eval ⟨tmps,ds⟩ x= .string s:=by
 have r:=rd_ok (ds:=ds) TR e
 generalize Act.eval ⟨tmps,ds⟩ x=v at r
 cases r;rfl
theorem alloc_ok(E:EnvOK P env)(TR:TRel μ tm tmps){ds:List Deferred}{o:Oper}{mk:Nat→Value}{obj:AObj}(e:opA env tm o.op=some (mk,obj)):
  ∃ v' u p,(execOp (Act.eval ⟨tmps,ds⟩) o).run P w= .ok (.value v') u∧NewObj μ w u p obj mk v':=by
 have fin:∀ {s:Sem Value} {v':Value} {u:World},s.run P w= .ok v' u→(do pure (.value (← s)):Sem Next).run P w= .ok (.value v') u:=by
  intro s v' u hs
  simp[hs]
 unfold opA at e
 unfold execOp
 split at e
 ·rename_i t ho
  rw[ho]
  split at e
  ·rename_i z hz
   simp only[Option.some.injEq,Prod.mk.injEq] at e
   obtain⟨rfl,rfl⟩:=e
   obtain⟨p,hr,hn⟩:=new_var (P:=P) (w:=w) t z.cells.toList z (LRel.cells ((E.zero t z hz).2 μ))
   refine⟨_,_,p,fin (s:=Instr.alloc t true (.tuple #[])) ?_,hn⟩
   simp only[Instr.alloc,Sem.run_bind,E.runZero hz,Result.andThen_ok]
   simpa using hr
  ·simp at e
 ·rename_i t x ho
  rw[ho]
  split at e
  ·rename_i v hv
   simp only[Option.some.injEq,Prod.mk.injEq] at e
   obtain⟨rfl,rfl⟩:=e
   obtain⟨p,hr,hn⟩:=new_var (P:=P) (w:=w) t v.cells.toList (Act.eval ⟨tmps,ds⟩ x) (LRel.cells (rd_ok TR hv))
   exact⟨_,_,p,fin hr,hn⟩
  ·simp at e
 ·rename_i t len ps ho
  rw[ho]
  split at e
  ·rename_i el vs hu hvs
   split at e
   ·rename_i s z hs hz
    split at e
    ·rename_i hb
     simp only[Bool.and_eq_true,Nat.ble_eq,Bool.not_eq_true'] at hb
     obtain⟨⟨hb1,hb2⟩,hb3⟩:=hb
     have hb1:=Nat.eq_of_beq_eq_true hb1
     have hs0:s≠0:=fun h=>by subst h;simp at hb2
     split at e
     ·rename_i cs hf
      simp only[Option.some.injEq,Prod.mk.injEq] at e
      obtain⟨rfl,rfl⟩:=e
      obtain⟨h1,h2⟩:=rdParts_ok (ds:=ds) TR hvs
      have zr:=(E.zero el z hz).2 μ
      have hzs:z.cells.size=s:=by simpa using hb1
      obtain⟨out',ho',ro⟩:=fill_ok (place:=fun i=>some (i * s,s)) (place':=fun i=>some (i * s,s)) (fun _ _ h=>h) vs (ps.toList.map fun p=>(p.1,Act.eval ⟨tmps,ds⟩ p.2))
       (rep len z.cells.toList) ((Array.range (len * s)).map (fun i=>z.cells[i % z.cells.size]!)) cs (by rw[List.map_map];exact h1) (by rw[List.map_map];exact h2) (by
        rw[← hzs,rep_eq z.cells len]
        exact rep_rel (LRel.cells zr) len) hf
      refine⟨.slice (some ⟨w.heap.size,0,none⟩) len len,w.alloc (.cells out' el),⟨w.heap.size,0,cs.length,0,0⟩,fin ?_,⟨rfl,by simp,fun k hk=>heap_alloc_old w _ k hk,rfl,rfl,rfl,?_⟩⟩
      ·have hps:(ps.map fun(i,x)=>(i,Act.eval ⟨tmps,ds⟩ x)).toList=ps.toList.map fun p=>(p.1,Act.eval ⟨tmps,ds⟩ p.2):=by simp
       have hbig:¬ (2 ^ 24 < len * s):=by omega
       by_cases hl0:len * s=0
       · -- an empty literal
        have hl:len=0:=by
         rcases Nat.mul_eq_zero.1 hl0 with h|h
         ·exact h
         ·exact absurd h hs0
        subst hl
        simp only[Nat.zero_mul,Array.range_zero',List.map_toArray,List.map_nil] at ho'
        simp[Instr.buildSlice,E.runUnd hu,E.runSize hs,newRow,Array.range_zero',ho']
       ·have hl1:¬ (len=0∨s=0):=by
         intro hh;exact hl0 (Nat.mul_eq_zero.2 hh)
        simp only[Instr.buildSlice,Sem.run_bind,E.runUnd hu,Result.andThen_ok,E.runSize hs,Sem.run_ite]
        rw[if_neg (by omega),if_neg hl0]
        simp[E.runZero hz,newRow,ho']
      ·intro ν b hle hb
       exact⟨row_rel out' (heap_alloc_new w _) rfl (ro.mono hle) rfl rfl rfl rfl rfl,.slice b 0 len len len _ hb (.inl rfl)⟩
     ·simp at e
    ·simp at e
   ·simp at e
  ·simp at e
 ·rename_i t l c ho
  rw[ho]
  split at e
  ·rename_i el k1 l k2 c hu hl hc
   split at e
   ·rename_i s z by_ hs hz hby
    split at e
    ·rename_i hb
     simp only[Bool.and_eq_true,Bool.not_eq_true',decide_eq_true_eq] at hb
     obtain⟨⟨⟨⟨⟨hb1,hb2⟩,hl0⟩,hlc⟩,hcb⟩,hcm⟩:=hb
     have hb1:=Nat.eq_of_beq_eq_true hb1
     have hs0:s≠0:=fun h=>by subst h;simp at hb2
     simp only[Option.some.injEq,Prod.mk.injEq] at e
     obtain⟨rfl,rfl⟩:=e
     have rl:=rd_int (ds:=ds) TR hl
     have rc:=rd_int (ds:=ds) TR hc
     simp only[rl,rc]
     obtain⟨i,hi,rfl⟩:=E.bytes _ _ hby
     have zr:=(E.zero el z hz).2 μ
     have hzs:z.cells.size=s:=by simpa using hb1
     have wl:IntKind.i64.wrap l=l:=by simp[IntKind.wrap,IntKind.bits,IntKind.signed];omega
     have wc:IntKind.i64.wrap c=c:=by simp[IntKind.wrap,IntKind.bits,IntKind.signed];omega
     let arr:Array Value:=(Array.range (c.toNat * s)).map (fun i=>z.cells[i % z.cells.size]!)
     have harr:arr.toList=rep c.toNat z.cells.toList:=by
      show((Array.range (c.toNat * s)).map _).toList=_
      rw[← hzs,rep_eq z.cells c.toNat]
     refine⟨.slice (some ⟨w.heap.size,0,none⟩) l.toNat c.toNat,w.alloc (.cells arr el),⟨w.heap.size,0,(rep c.toNat z.cells.toList).length,0,0⟩,fin (s:=Instr.makeSlice t (.int k1 l) (.int k2 c)) ?_,⟨rfl,by simp,fun k hk=>heap_alloc_old w _ k hk,rfl,rfl,rfl,?_⟩⟩
     ·have g1:¬ ((i.bytes:Int) * c>2 ^ 48):=by rw[Int.mul_comm];omega
      have g2:¬ c < 0:=by omega
      have g3:¬ l < 0:=by omega
      have g4:¬ l>c:=by omega
      simp only[Instr.makeSlice,Sem.run_bind,E.runUnd hu,Result.andThen_ok,asInt,asIntOf,Sem.run_pure,E.runInfo hi,wl,wc]
      simp only[g1,g2,g3,g4,decide_false,Bool.or_false,Bool.false_eq_true,if_false,Sem.run_bind,Result.andThen_ok,run_askRoom,E.runSize hs]
      by_cases hn:c.toNat * s=0
      ·have hc0:c.toNat=0:=by
        rcases Nat.mul_eq_zero.1 hn with h|h
        ·exact h
        ·exact absurd h hs0
       have:arr= #[]:=by apply Array.ext';rw[harr,hc0];rfl
       simp[hn,newRow,Array.range_zero',this]
      ·simp only[hn,if_false,Sem.run_bind,E.runZero hz,Result.andThen_ok,Sem.run_pure]
       simp[newRow,arr]
     ·intro ν b hle hb
      refine⟨row_rel arr (heap_alloc_new w _) harr ?_ rfl rfl rfl rfl rfl,.slice b 0 l.toNat c.toNat c.toNat _ hb (.inl rfl)⟩
      exact rep_rel ((LRel.cells zr).mono hle) c.toNat
    ·simp at e
   ·simp at e
  ·simp at e
 ·rename_i t ho
  rw[ho]
  split at e
  ·rename_i k el hu
   simp only[Option.some.injEq,Prod.mk.injEq] at e
   obtain⟨rfl,rfl⟩:=e
   refine⟨.map (some w.heap.size),w.alloc (.map #[] 0),⟨w.heap.size,0,0,0,0⟩,fin (s:=Instr.makeMap t none) ?_,⟨rfl,by simp,fun k hk=>heap_alloc_old w _ k hk,rfl,rfl,rfl,?_⟩⟩
   ·simp[Instr.makeMap]
   ·intro ν b hle hb
    exact⟨⟨#[],0,heap_alloc_new w _,rfl,fun i e kv h=>by simp at h,fun i e h=>by simp at h,fun i j e e' h=>by simp at h⟩,.map b _ hb⟩
  ·simp at e
 ·rename_i t x ho
  rw[ho]
  split at e
  ·rename_i s hu hx
   simp only[Option.some.injEq,Prod.mk.injEq] at e
   obtain⟨rfl,rfl⟩:=e
   have rx:=rd_str (ds:=ds) TR hx
   simp only[rx]
   refine⟨.pointer (some ⟨w.heap.size,0,none⟩),w.alloc (.stringIter s 0),⟨w.heap.size,0,0,0,0⟩,fin (s:=Instr.range t (.string s)) ?_,⟨rfl,by simp,fun k hk=>heap_alloc_old w _ k hk,rfl,rfl,rfl,?_⟩⟩
   ·simp[Instr.range,E.runUnd hu]
   ·intro ν b hle hb
    exact⟨⟨heap_alloc_new w _,rfl⟩,.ptr b 0 _ hb⟩
  ·simp at e
 ·rename_i s d x ho
  rw[ho]
  split at e
  ·rename_i el b hus hud hx
   split at e
   ·rename_i hue hse
    split at e
    ·rename_i hlen
     simp only[Nat.ble_eq] at hlen
     simp only[Option.some.injEq,Prod.mk.injEq] at e
     obtain⟨rfl,rfl⟩:=e
     have rx:=rd_str (ds:=ds) TR hx
     simp only[rx]
     let q:Question:=.appendCap b.size 0 el
     let c:Nat:=q.cut (w.tape w.drawn q)
     have hc:b.size≤c:=by
      show b.size≤b.size+_
      omega
     have hbl:b.data.toList.length=b.size:=by simp
     let cells':List Value:=b.data.toList.map fun x=>.int .u8 (x.toNat:Int)
     let arr:Array Value:=(b.data.map fun x=>Value.int .u8 (x.toNat:Int))++Array.replicate (c - b.size) (.int .u8 0)
     have harr:arr.toList=cells'++List.replicate (c - b.size) (.int .u8 0):=by simp[arr,cells']
     have hsz:arr.size=c:=by simp[arr];omega
     let w1:World:={w with drawn:=w.drawn+1}
     let u:World:=(w1.alloc (.cells arr el)).freeze {block:=w.heap.size,off:=c} 1
     have hu0:u.heap[w.heap.size]? =some (.cells arr el (c,c+1)):=by
      simp[u,w1,World.freeze,World.alloc,Array.getElem_modify]
     refine⟨.slice (some ⟨w.heap.size,0,none⟩) b.size c,u,⟨w.heap.size,0,b.data.toList.length,c - b.size,1⟩,fin (s:=convert s d (.string b)) ?_,⟨rfl,by simp[u,w1,World.freeze,World.alloc],?_,rfl,rfl,rfl,?_⟩⟩
     ·have hsh:(w1.alloc (.cells arr el)).shape? w.heap.size=some (el,c):=by
       simp[World.shape?,World.alloc,w1,hsz]
      simp only[convert,Sem.run_bind,E.runUnd hus,E.runUnd hud,Result.andThen_ok,E.runUnd hue,Conv.stringToBytes,run_choose]
      rw[if_neg (by simp[Question.forced])]
      simp only[Result.andThen_ok,newRow,Sem.run_bind,run_newObj,Sem.run_pure,markStringish,run_shape]
      split
      ·rename_i e1 n1 hsm
       have:=hsm.symm.trans hsh
       simp only[Option.some.injEq,Prod.mk.injEq] at this
       obtain⟨rfl,rfl⟩:=this
       rfl
      ·rename_i hno
       exact absurd hsh (hno _ _)
     ·intro k hk
      simp[u,w1,World.freeze,World.alloc,Array.getElem?_modify]
      rw[if_neg (by omega)]
      simp[Array.getElem?_push,hk]
      omega
     ·intro ν k hle hk
      refine⟨⟨arr,(c,c+1),hu0,?_,rfl,?_,⟨fun h=>by simp at h,fun _=>rfl⟩,?_,?_⟩,?_⟩
      ·simp
      ·simp[hsz];omega
      ·simp only[List.drop_zero]
       rw[harr,List.take_append_of_le_length (by simp[cells']),List.take_of_length_le (by simp[cells'])]
       refine⟨by simp[cells'],fun i x x' hx hx'=>?_⟩
       have:x=x':=by
        have:=hx.symm.trans hx'
        simpa using this
       subst this
       simp only[List.getElem?_map,Option.map_eq_some_iff] at hx
       obtain⟨y,_,rfl⟩:=hx
       exact .int _ _
      ·refine⟨?_,fun h=>by cases h⟩
       intro _ i _ hh
       have:=hh.1
       have:=hh.2.2
       omega
      ·refine .slice k 0 _ _ c _ hk (.inr ⟨by simp,by simp,by simp;omega,?_⟩)
       simp;omega
    ·simp at e
   ·simp at e
  ·simp at e
 ·simp at e
end
end Go.PanE
namespace Go.PanE
section
variable {P:Program} {env:Env} {μ:Loc} {h:Heap} {w:World} {tm:T Value} {tmps:Array Value}
theorem srcLen_ok{x x':Value}{n:Nat}(hx:VRel μ x x')(e:srcLen x=some n):(Builtin.lenOf x').run P w= .ok n w:=by
 unfold srcLen at e
 split at e
 ·cases hx <;>(simp only[Option.some.injEq] at e;subst e;simp[Builtin.lenOf])
 ·cases hx
  simp only[Option.some.injEq] at e;subst e
  simp[Builtin.lenOf]
 ·simp at e
theorem bytes_rel(l:List UInt8):LRel μ (l.map fun x=>.int .u8 (x.toNat:Int)) (l.map fun x=>.int .u8 (x.toNat:Int)):=by
 refine⟨rfl,fun i x x' hx hx'=>?_⟩
 have:x=x':=by
  have:=hx.symm.trans hx'
  simpa using this
 subst this
 simp only[List.getElem?_map,Option.map_eq_some_iff] at hx
 obtain⟨y,_,rfl⟩:=hx
 exact .int _ _
def srcWide(k sz:Nat):Value→Nat
 | .string _=>k
 | .slice none _ _=>0
 |_=>k * sz
/-- The first cells of a slice or text. -/
theorem src_any(R:Rep μ h w){sz n k:Nat}{x x':Value}{xs:List Value}{m:Option Nat}(hx:VRel μ x x')(hl:srcLen x=some n)(hk:k=m.getD n)(hkn:k≤n)(e:srcCells h sz m x=some xs):
  ∃ l:List Value,(∀ w1:World,w1.heap=w.heap→(Builtin.firstCells sz k x').run P w1= .ok ⟨l⟩ w1)∧LRel μ xs l∧xs.length=srcWide k sz x:=by
 unfold srcCells at e
 split at e
 ·simp only[Option.some.injEq] at e;subst e
  cases hx
  exact⟨[],fun w1 _=>by simp[Builtin.firstCells],.nil,rfl⟩
 ·rename_i a l c
  split at e
  ·rename_i el cells es ro hg hs
   simp only at e
   split at e
   ·rename_i hb
    simp only[Option.some.injEq] at e;subst e
    simp only[srcLen,Option.some.injEq] at hl
    have hkk:m.getD l=k:=by rw[hk,← hl]
    rw[hkk] at hb ⊢
    cases hx with
    |slice b o _ _ c' p hp hc=>
     obtain⟨q,hq,ho⟩:=R.live _ _ hg
     simp only at hq
     rw[hp] at hq;simp only[Option.some.injEq] at hq;subst hq
     obtain⟨l',hrun,hrel⟩:=row_cells_any (P:=P) ho (Nat.eq_of_beq_eq_true hb)
     exact⟨l',fun w1 hw1=>by simpa[Builtin.firstCells] using hrun w1 hw1,hrel,Nat.eq_of_beq_eq_true hb⟩
   ·simp at e
  ·simp at e
 ·rename_i s
  cases hx
  simp only[srcLen,Option.some.injEq] at hl
  split at e
  ·simp only[Option.some.injEq] at e;subst e
   simp only[Option.getD_none] at hk
   have hks:k=s.size:=by rw[hk,← hl];simp
   refine⟨s.data.toList.map fun x=>.int .u8 (x.toNat:Int),fun w1 _=>?_,bytes_rel _,by simp[hks,srcWide]⟩
   simp only[Builtin.firstCells,Sem.run_pure]
   congr 1
   apply Array.ext'
   simp[hks]
  ·rename_i m'
   simp only[Option.some.injEq] at e;subst e
   simp only[Option.getD_some] at hk
   subst hk
   refine⟨(s.data.toList.take k).map fun x=>.int .u8 (x.toNat:Int),fun w1 _=>?_,bytes_rel _,?_⟩
   ·simp only[Builtin.firstCells,Sem.run_pure]
    congr 1
    apply Array.ext'
    simp[ba_extract]
   ·simp[srcWide]
    simp at hl
    omega
 ·simp at e
theorem src_ok(R:Rep μ h w){sz n k:Nat}{x x':Value}{xs:List Value}{m:Option Nat}(hx:VRel μ x x')(hl:srcLen x=some n)(hk:k=m.getD n)(hkn:k≤n)(e:srcCells h sz m x=some xs):
  ∃ l:List Value,(Builtin.firstCells sz k x').run P w= .ok ⟨l⟩ w∧LRel μ xs l∧xs.length=srcWide k sz x:=by
 obtain⟨l,h1,h2⟩:=src_any (P:=P) R hx hl hk hkn e
 exact⟨l,h1 w rfl,h2⟩
theorem store_ok(E:EnvOK P env)(R:Rep μ h w){t:TypeId}{a:Addr}{v va v':Value}{h':Heap}(ra:VRel μ (.pointer (some a)) va)(rv:VRel μ v v')(e:storeV env h t a v=some h'):
  ∃ u,(Instr.storeAt t va v').run P w= .ok () u∧Go1 μ h w μ h' u:=by
 unfold storeV at e
 split at e
 ·rename_i n hn
  split at e
  ·rename_i hsz
   cases ra with
   |ptr b o p hp=>
    have rc:=LRel.cells rv
    obtain⟨u,hr,g⟩:=storeC_ok (P:=P) (o:=o) hp v.cells.toList v'.cells.toList 0 h h' w R rc (by simpa using e)
    refine⟨u,?_,g⟩
    have:v'.cells.size=n:=by
     have:=rc.1
     simp at this
     omega
    simp[Instr.storeAt,Instr.sureAddr,storeVar,E.runSize hn,this,hr]
  ·simp at e
 ·simp at e
theorem copy_ok(E:EnvOK P env)(R:Rep μ h w){ts:Array TypeId}{rt:TypeId}{d s d' s' v:Value}{h':Heap}(rd:VRel μ d d')(rs:VRel μ s s')(e:copyA env h ts d s=some (v,h')):
  ∃ v' u,(Builtin.copy_ ts rt #[d',s']).run P w= .ok v' u∧Go1 μ h w μ h' u∧VRel μ v v':=by
 unfold copyA at e
 split at e
 ·rename_i dt hdt
  split at e
  ·rename_i el base l c hu
   split at e
   ·rename_i sz n hsz hn
    simp only at e
    split at e
    ·rename_i xs hxs
     obtain⟨l',hr,hl,_⟩:=src_ok (P:=P) (k:=Nat.min n l) R rs hn (by simp) (Nat.min_le_left _ _) hxs
     have hlen:=srcLen_ok (P:=P) (w:=w) rs hn
     split at e
     ·simp only[Option.some.injEq,Prod.mk.injEq] at e
      obtain⟨rfl,rfl⟩:=e
      have hl0:l'=[]:=by have:=hl.1;simpa using this.symm
      subst hl0
      refine⟨goInt (Nat.min n l),w,?_,Go1.refl R,.int _ _⟩
      cases rd with
      |nils=>
       rw[show Nat.min n 0=0 from Nat.min_zero n] at hr
       simp[Builtin.copy_,hdt,E.runUnd hu,hlen,E.runSize hsz,hr]
      |slice b o _ _ c' p hp hc=>
       simp[Builtin.copy_,hdt,E.runUnd hu,hlen,E.runSize hsz,hr,storeCells]
     ·simp only[Option.some.injEq,Prod.mk.injEq] at e
      obtain⟨rfl,rfl⟩:=e
      cases rd
      refine⟨goInt (Nat.min n 0),w,?_,Go1.refl R,.int _ _⟩
      rw[show Nat.min n 0=0 from Nat.min_zero n] at hr
      simp[Builtin.copy_,hdt,E.runUnd hu,hlen,E.runSize hsz,hr]
     ·rename_i a x
      split at e
      ·rename_i h2 hst
       simp only[Option.some.injEq,Prod.mk.injEq] at e
       obtain⟨rfl,rfl⟩:=e
       cases rd with
       |slice b o _ _ c' p hp hc=>
        obtain⟨u,hu2,g⟩:=storeC_ok (P:=P) (o:=o) hp xs l' 0 h h2 w R hl (by simpa using hst)
        refine⟨goInt (Nat.min n l),u,?_,g,.int _ _⟩
        simp[Builtin.copy_,hdt,E.runUnd hu,hlen,E.runSize hsz,hr,hu2]
      ·simp at e
    ·simp at e
   ·simp at e
  ·simp at e
 ·simp at e
end
end Go.PanE
namespace Go.PanE
section
variable {P:Program} {env:Env} {μ:Loc} {h:Heap} {w:World}
theorem grow_le(L:Nat):∀ r c,c≤L+(L+768) / 4→Builtin.growBy L r c≤L+(L+768) / 4:=by
 intro r
 induction r with
 |zero=>intro c hc;simpa[Builtin.growBy] using hc
 |succ r ih=>
  intro c hc
  simp only[Builtin.growBy]
  split
  ·exact hc
  ·exact ih _ (by omega)
theorem next_le(L c:Nat)(hc:c < L):Builtin.nextslicecap L c≤2 * L+1000:=by
 unfold Builtin.nextslicecap
 split
 ·omega
 ·split
  ·omega
  ·have:=grow_le L 4 c (by omega)
   omega
/-- An object is forgotten. -/
theorem go_kill(R:Rep μ h w)(b:Nat):Go1 μ h w μ (h.kill b) w:=by
 have g:∀ c x,(h.kill b).get c=some x→h.get c=some x:=by
  intro c x hc
  rw[Heap.get_kill] at hc
  split at hc
  ·simp at hc
  ·exact hc
 refine⟨μ.le_refl,⟨fun c x hc=>R.live c x (g c x hc),fun c c' x x' q q' hc hc'=>R.inj c c' x x' q q' (g c x hc) (g c' x' hc'),R.fresh,R.bound,R.glob⟩,Nat.le_refl _,?_,fun k _ _=>rfl,rfl,rfl,rfl,Nat.le_refl _,fun _ _=>rfl⟩
 rintro k ⟨c,x,q,hc,hq,rfl⟩ _
 exact⟨c,x,q,g c x hc,hq,rfl⟩
/-- Cells of one block are written. -/
theorem storeCells_row{pb:Nat}{el:TypeId}{fr:Nat×Nat}:∀ (vs:List Value) (arr:Array Value) (w:World) (k i:Nat),w.heap[pb]? =some (.cells arr el fr)→k+i+vs.length≤arr.size→
  (∀ j,k+i≤j→¬ (fr.1≤j∧j < fr.2∧j < arr.size))→(∀ v∈vs,v.oneCell'=true)→
  ∃ u arr',(storeCells ⟨pb,k,none⟩ vs i).run P w= .ok () u∧u.heap[pb]? =some (.cells arr' el fr)∧arr'.toList=arr.toList.take (k+i)++vs++arr.toList.drop (k+i+vs.length)∧u.heap.size=w.heap.size∧
   (∀ j,j≠pb→u.heap[j]? =w.heap[j]?)∧u.os=w.os∧u.output=w.output∧u.tape=w.tape:=by
 intro vs
 induction vs with
 |nil=>
  intro arr w k i hw _ _ _
  exact⟨w,arr,rfl,hw,by simp,rfl,fun _ _=>rfl,rfl,rfl,rfl⟩
 |cons v vs ih=>
  intro arr w k i hw hl hf hv
  simp only[List.length_cons] at hl
  have hc:w.cell? ⟨pb,k+i,none⟩=some (arr[k+i]'(by omega)):=by
   rw[cell_of_row w pb _ arr el fr hw,Array.getElem?_eq_getElem (by omega)]
  have hfr:w.frozen? ⟨pb,k+i,none⟩=false:=by
   have:=hf (k+i) (Nat.le_refl _)
   simp only[World.frozen?,hw,Bool.and_eq_false_iff,decide_eq_false_iff_not]
   by_cases h1:fr.1≤k+i
   ·right;intro h2;exact this ⟨h1,h2,by omega⟩
   ·left;exact h1
  have hheap:(w.setCell ⟨pb,k+i,none⟩ v).heap[pb]? =some (.cells (arr.setIfInBounds (k+i) v) el fr):=by
   simp[World.setCell,Array.getElem?_modify,hw]
  obtain⟨u,arr',h1,h2,h3,h4,h5,h6,h7,h8⟩:=ih (arr.setIfInBounds (k+i) v) (w.setCell ⟨pb,k+i,none⟩ v) k (i+1) hheap (by simp;omega)
   (fun j hj hh=>hf j (by omega) ⟨hh.1,hh.2.1,by simpa using hh.2.2⟩) (fun x hx=>hv x (by simp[hx]))
  refine⟨u,arr',?_,h2,?_,by rw[h4];simp[World.setCell],?_,by rw[h6];rfl,by rw[h7];rfl,by rw[h8];rfl⟩
  ·simp only[storeCells,Sem.run_bind,addr_add]
   rw[run_store P w _ _ _ (hv v (by simp))]
   simpa[hc,hfr] using h1
  ·rw[h3,Array.toList_setIfInBounds]
   rw[show k+(i+1)=k+i+1 by omega,show k+i+1+vs.length=k+i+(v::vs).length by simp;omega]
   rw[List.take_set,List.take_succ_eq_append_getElem (by simp;omega),List.set_append_right _ _ (by simp;omega),List.drop_set_of_lt (by simp)]
   simp[Nat.min_eq_left (show k+i≤arr.size by omega)]
  ·intro j hj
   rw[h5 j hj]
   simp only[World.setCell,Array.getElem?_modify]
   rw[if_neg (fun e=>hj e.symm)]
/-- A new object takes an elder one's block over. -/
theorem go_take(R:Rep μ h w){b:Nat}{p q:Place}{x o:AObj}{u:World}(hb:h.get b=some x)(hp:μ b=some p)(hq:q.pb=p.pb)(hs:u.heap.size=w.heap.size)
  (hold:∀ k,k≠p.pb→u.heap[k]? =w.heap[k]?) (hos:u.os=w.os) (hout:u.output=w.output) (htape:u.tape=w.tape) (ho:ORel (μ.upd h.nx q) u q o):
  Go1 μ h w (μ.upd h.nx q) ((h.kill b).alloc o) u:=by
 have hle:μ.le (μ.upd h.nx q):=Loc.le_upd (R.fresh _ (Nat.le_refl _))
 have hbn:b < h.nx:=Heap.lt_of_get hb
 have hnx:(h.kill b).nx=h.nx:=rfl
 have g:∀ c y,((h.kill b).alloc o).get c=some y→(c=h.nx∧y=o)∨(c≠h.nx∧c≠b∧h.get c=some y):=by
  intro c y hc
  rw[Heap.get_alloc,hnx] at hc
  split at hc
  ·rename_i e;simp only[Option.some.injEq] at hc;exact .inl ⟨e,hc.symm⟩
  ·rename_i e
   rw[Heap.get_kill] at hc
   split at hc
   ·simp at hc
   ·rename_i e2;exact .inr ⟨e,e2,hc⟩
 refine⟨hle,⟨?_,?_,?_,?_,R.glob.mono hle⟩,by omega,?_,?_,hos,hout,htape,Nat.le_succ _,fun c hc=>Loc.upd_other _ _ _ _ (by omega)⟩
 ·intro c y hc
  rcases g c y hc with⟨rfl,rfl⟩|⟨e,e2,hc'⟩
  ·exact⟨q,Loc.upd_same _ _ _,ho⟩
  ·obtain⟨r,hr,hor⟩:=R.live c y hc'
   refine⟨r,by rw[Loc.upd_other _ _ _ _ e];exact hr,(hor.mono hle).world (hold _ ?_)⟩
   intro hpb
   exact e2 (R.inj c b y x r p hc' hb hr hp hpb)
 ·intro c c' y y' r r' hc hc' hr hr' hpb
  rcases g c y hc with⟨rfl,_⟩|⟨e,e2,hc1⟩ <;>rcases g c' y' hc' with⟨rfl,_⟩|⟨e',e2',hc1'⟩
  ·rfl
  ·exfalso
   rw[Loc.upd_same] at hr;simp only[Option.some.injEq] at hr;subst hr
   rw[Loc.upd_other _ _ _ _ e'] at hr'
   exact e2' (R.inj c' b y' x r' p hc1' hb hr' hp (by omega))
  ·exfalso
   rw[Loc.upd_same] at hr';simp only[Option.some.injEq] at hr';subst hr'
   rw[Loc.upd_other _ _ _ _ e] at hr
   exact e2 (R.inj c b y x r p hc1 hb hr hp (by omega))
  ·rw[Loc.upd_other _ _ _ _ e] at hr
   rw[Loc.upd_other _ _ _ _ e'] at hr'
   exact R.inj c c' y y' r r' hc1 hc1' hr hr' hpb
 ·intro c hc
  have hc':h.nx+1≤c:=hc
  rw[Loc.upd_other _ _ _ _ (by omega)]
  exact R.fresh c (by omega)
 ·intro c r hr
  by_cases e:c=h.nx
  ·rw[e,Loc.upd_same] at hr;simp only[Option.some.injEq] at hr;subst hr
   have:=R.bound b p hp
   omega
  ·rw[Loc.upd_other _ _ _ _ e] at hr
   have:=R.bound c r hr
   omega
 ·rintro k ⟨c,y,r,hc,hr,rfl⟩ _
  rcases g c y hc with⟨rfl,_⟩|⟨e,e2,hc1⟩
  ·rw[Loc.upd_same] at hr;simp only[Option.some.injEq] at hr;subst hr
   exact⟨b,x,p,hb,hp,hq.symm⟩
  ·rw[Loc.upd_other _ _ _ _ e] at hr
   exact⟨c,y,r,hc1,hr,rfl⟩
 ·intro k hk hown
  refine hold k ?_
  rintro rfl
  exact hown ⟨b,x,p,hb,hp,rfl⟩
end
end Go.PanE
namespace Go.PanE
section
variable {P:Program} {env:Env} {μ:Loc} {h:Heap} {w:World}
theorem notInt(d:TypeDesc):Go.Builtin.append_.match_1 (fun _=>Bool) d (fun _=>true) (fun _=>false)=isIntD d:=by
 cases d <;>rfl
/-- The model's append where there is room. -/
theorem append_room{ts:Array TypeId}{rt st xt el:TypeId}{dx:TypeDesc}{base:Option Addr}{l c sz n:Nat}{x':Value}{new:List Value}{u:World}(E:EnvOK P env)(hst:ts[0]? =some st)(hxt:ts[1]? =some xt)
  (hu:env.und st=some (.slice el)) (hx:env.und xt=some dx) (hd:isIntD dx=false) (hsz:env.size el=some sz) (hl:(Builtin.lenOf x').run P w= .ok n w) (hc:l+n≤c)
  (hn:(Builtin.firstCells sz n x').run P w= .ok ⟨new⟩ w) (hst2:∀ a,base=some a→(storeCells (a.add (l * sz)) new).run P w= .ok () u) (hb:base=none→u=w):
  (Builtin.append_ ts rt #[.slice base l c,x']).run P w= .ok (.slice base (l+n) c) u:=by
 cases base with
 |none=>
  rw[hb rfl]
  simp[Builtin.append_,hst,hxt,E.runUnd hu,E.runUnd hx,E.runSize hsz,notInt,hd,hl,hc,hn]
 |some a=>
  simp[Builtin.append_,hst,hxt,E.runUnd hu,E.runUnd hx,E.runSize hsz,notInt,hd,hl,hc,hn,hst2 a rfl]
/-- The model's append where a new row is made. -/
theorem append_grow{ts:Array TypeId}{rt st xt el:TypeId}{dx:TypeDesc}{base:Option Addr}{l c sz n by_:Nat}{z:Value}{x':Value}{old new:List Value}(E:EnvOK P env)(hst:ts[0]? =some st)(hxt:ts[1]? =some xt)
  (hu:env.und st=some (.slice el)) (hx:env.und xt=some dx) (hd:isIntD dx=false) (hsz:env.size el=some sz) (hby:env.bytes el=some by_) (hz0:env.zero el=some z) (hzs:z.cells.size=sz)
  (hl:(Builtin.lenOf x').run P w= .ok n w) (hc:¬ l+n≤c) (hbig:(2 * (l+n)+1000) * (by_+1)≤281474976710656)
  (ho:∀ w1,w1.heap=w.heap→(Builtin.firstCells sz l (.slice base l c)).run P w1= .ok ⟨old⟩ w1) (hn:∀ w1,w1.heap=w.heap→(Builtin.firstCells sz n x').run P w1= .ok ⟨new⟩ w1):
  ∃ (cap:Nat) (rest:List Value),l+n≤cap∧rest.length=(cap - (l+n)) * sz∧
   (Builtin.append_ ts rt #[.slice base l c,x']).run P w= .ok (.slice (some ⟨w.heap.size,0,none⟩) (l+n) cap) (({w with drawn:=w.drawn+1}:World).alloc (.cells ⟨old++new++rest⟩ el)):=by
 obtain⟨i,hi,rfl⟩:=E.bytes _ _ hby
 let q:Question:=.appendCap (l+n) c el
 let cap:Nat:=q.cut (w.tape w.drawn q)
 have hcap:l+n≤cap:=by
  show l+n≤l+n+_
  omega
 refine⟨cap,(Builtin.zeroCells z.cells (cap - (l+n))).toList,hcap,by simp[Builtin.zeroCells,hzs],?_⟩
 have g2:¬ (Builtin.nextslicecap (l+n) c * i.bytes>2 ^ 48):=by
  have h1:=next_le (l+n) c (by omega)
  have h2:Builtin.nextslicecap (l+n) c * i.bytes≤(2 * (l+n)+1000) * i.bytes:=Nat.mul_le_mul_right _ h1
  have h3:(2 * (l+n)+1000) * (i.bytes+1)=(2 * (l+n)+1000) * i.bytes+(2 * (l+n)+1000):=Nat.mul_succ _ _
  omega
 have g1:¬ (((l+n:Nat):Int)>IntKind.i64.max):=by
  have h3:(2 * (l+n)+1000) * (i.bytes+1)=(2 * (l+n)+1000) * i.bytes+(2 * (l+n)+1000):=Nat.mul_succ _ _
  simp
  omega
 have ho1:=ho {w with drawn:=w.drawn+1} rfl
 have hn1:=hn {w with drawn:=w.drawn+1} rfl
 have hw1:({w with drawn:=w.drawn+1}:World).heap.size=w.heap.size:=rfl
 have hfor:q.forced=false:=rfl
 have hge:∀ w1:World,w1.heap=w.heap→(typeInfo el).run P w1= .ok i w1:=fun w1 _=>E.runInfo hi w1
 have hcap1:q.cut (w.tape w.drawn q)=cap:=rfl
 simp only[Builtin.append_,List.getElem?_toArray,hst,hxt,Sem.run_bind,E.runUnd hu,E.runUnd hx,Result.andThen_ok,E.runSize hsz,Sem.run_pure,notInt,hd,Bool.false_eq_true,if_false,hl,Bool.not_false,if_true,List.getElem?_cons_zero,List.getElem?_cons_succ,
  hc,E.runInfo hi,Sem.run_ite,g1,false_and,g2,run_choose,hfor,hcap1,q,run_askRoom]
 rw[ho1]
 simp only[Result.andThen_ok]
 rw[hn1]
 simp only[Result.andThen_ok,E.runZero hz0,newRow,Sem.run_bind,run_newObj,Sem.run_pure]
 simp only[World.alloc]
 congr 3
 simp
/-- A new row that may grow. -/
theorem new_open(R:Rep μ h w){el:TypeId}{sz k cap:Nat}{cells cells' rest:List Value}(hs0:sz≠0)(hr:LRel μ cells cells')(hl:cells.length=k * sz)(hcap:k≤cap)(hrest:rest.length=(cap - k) * sz):
  Go1 μ h w (μ.upd h.nx ⟨w.heap.size,0,k * sz,(cap - k) * sz,sz⟩) (h.alloc (.row el cells sz false)) (({w with drawn:=w.drawn+1}:World).alloc (.cells ⟨cells'++rest⟩ el))∧
   VRel (μ.upd h.nx ⟨w.heap.size,0,k * sz,(cap - k) * sz,sz⟩) (.slice (some ⟨h.nx,0,none⟩) k k) (.slice (some ⟨w.heap.size,0,none⟩) k cap):=by
 have hle:μ.le (μ.upd h.nx ⟨w.heap.size,0,k * sz,(cap - k) * sz,sz⟩):=Loc.le_upd (R.fresh _ (Nat.le_refl _))
 have hcl:cells'.length=k * sz:=by rw[← hr.1,hl]
 refine⟨go_alloc R (by simp) (fun j hj=>heap_alloc_old _ _ j hj) rfl rfl rfl rfl ?_,?_⟩
 ·refine⟨⟨cells'++rest⟩,(0,0),heap_alloc_new _ _,hl.symm,rfl,?_,⟨fun h=>absurd h hs0,fun _=>rfl⟩,?_,⟨fun _ i _ hh=>by simp at hh,fun h=>by cases h⟩⟩
  ·simp[hcl,hrest]
  ·simp only[List.drop_zero]
   rw[List.take_append_of_le_length (by omega),List.take_of_length_le (by omega)]
   exact hr.mono hle
 ·refine .slice h.nx 0 k k cap _ (Loc.upd_same _ _ _) (.inr ⟨hs0,by simp,hcap,?_⟩)
  have:(cap - k) * sz+k * sz=cap * sz:=by rw[← Nat.add_mul];congr 1;omega
  simp only
  omega
theorem append_ok(E:EnvOK P env)(R:Rep μ h w){ts:Array TypeId}{rt:TypeId}{s x s' x' v:Value}{h':Heap}(rs:VRel μ s s')(rx:VRel μ x x')(e:appendA env h ts s x=some (v,h')):
  ∃ v' u ν,(Builtin.append_ ts rt #[s',x']).run P w= .ok v' u∧Go1 μ h w ν h' u∧VRel ν v v':=by
 unfold appendA at e
 split at e
 ·rename_i st xt hst hxt
  split at e
  ·rename_i el dx base l c hu hx
   split at e
   ·rename_i sz by_ z n hsz hby hz hn
    split at e
    ·rename_i xs hxs
     split at e
     ·simp at e
     rename_i hchk
     simp only[Bool.or_eq_true,Bool.not_eq_true',not_or,Bool.not_eq_true,Bool.not_eq_false] at hchk
     obtain⟨⟨⟨hd,hs0⟩,hxl⟩,hzs⟩:=hchk
     have hxl:=Nat.eq_of_beq_eq_true hxl
     have hzs:=Nat.eq_of_beq_eq_true hzs
     have hs0:sz≠0:=fun h=>by subst h;simp at hs0
     have hlen:=srcLen_ok (P:=P) (w:=w) rx hn
     obtain⟨new,hnew1,hrn,_⟩:=src_any (P:=P) (k:=n) R rx hn (by simp) (Nat.le_refl _) hxs
     have hnew:=hnew1 w rfl
     split at e
     · -- nothing is appended
      rename_i hn0
      have hn0:=Nat.eq_of_beq_eq_true hn0
      subst hn0
      split at e
      ·rename_i hlc
       have hlc:l≤c:=by simpa using hlc
       simp only[Option.some.injEq,Prod.mk.injEq] at e
       obtain⟨rfl,rfl⟩:=e
       have hnil:new=[]:=by
        have:=hrn.1
        rw[hxl] at this
        simpa using this.symm
       subst hnil
       cases rs with
       |nils=>
        exact⟨_,w,μ,append_room E hst hxt hu hx hd hsz hlen (by omega) hnew (fun a h=>by simp at h) (fun _=>rfl),Go1.refl R,.nils⟩
       |slice b o _ _ c' p hp hc=>
        have hcc:c≤c':=by rcases hc with hc|⟨_,_,hc,_⟩ <;>omega
        exact⟨_,w,μ,append_room E hst hxt hu hx hd hsz hlen (by omega) hnew (fun a h=>rfl) (fun h=>by simp at h),Go1.refl R,.slice b o l c c' p hp hc⟩
      ·simp at e
     rename_i hn0
     split at e
     · -- there is room
      rename_i hroom
      have hroom:l+n≤c:=by simpa using hroom
      split at e
      ·rename_i b o
       split at e
       ·rename_i h2 hst2
        simp only[Option.some.injEq,Prod.mk.injEq] at e
        obtain⟨rfl,rfl⟩:=e
        cases rs with
        |slice _ _ _ _ c' p hp hc=>
         have hcc:c≤c':=by rcases hc with hc|⟨_,_,hc,_⟩ <;>omega
         obtain⟨u,hu2,g⟩:=storeC_ok (P:=P) (o:=o+l * sz) hp xs new 0 h h2 w R hrn (by simpa using hst2)
         refine⟨_,u,μ,append_room E hst hxt hu hx hd hsz hlen (by omega) hnew (fun a ha=>?_) (fun h=>by simp at h),g,.slice b o (l+n) c c' p hp hc⟩
         simp only[Option.some.injEq] at ha;subst ha
         rw[addr_add,Nat.add_assoc]
         exact hu2
       ·simp at e
      ·simp at e
     rename_i hroom
     have hroom:¬ l+n≤c:=by simpa using hroom
     split at e
     ·rename_i hbig
      have hbig:(2 * (l+n)+1000) * (by_+1)≤281474976710656:=by simpa using hbig
      split at e
      · -- onto nil
       simp only[Option.some.injEq,Prod.mk.injEq] at e
       obtain⟨rfl,rfl⟩:=e
       cases rs
       obtain⟨cap,rest,hcap,hrest,hrun⟩:=append_grow (old:=[]) (base:=none) (rt:=rt) E hst hxt hu hx hd hsz hby hz hzs hlen hroom hbig (fun w1 _=>by simp[Builtin.firstCells]) hnew1
       obtain⟨g,rv⟩:=new_open R (el:=el) (sz:=sz) (k:=0+n) (cap:=cap) (cells:=xs) (cells':=[]++new) (rest:=rest) hs0 (by simpa using hrn) (by simpa using hxl) hcap hrest
       exact⟨_,_,_,hrun,g,rv⟩
      ·rename_i b o
       split at e
       · -- the capacity is known
        rename_i old ef hold
        simp only[Option.some.injEq,Prod.mk.injEq] at e
        obtain⟨rfl,rfl⟩:=e
        cases rs with
        |slice _ _ _ _ c' p hp hc=>
         have hcc:=(fullOpen_ok E R hp hc hsz ef).1 rfl
         subst hcc
         obtain⟨old',hold1,hro,hol⟩:=src_any (P:=P) (k:=l) (n:=l) R (.slice b o l c' c' p hp (.inl rfl)) rfl (by simp) (Nat.le_refl _) hold
         obtain⟨cap,rest,hcap,hrest,hrun⟩:=append_grow (rt:=rt) E hst hxt hu hx hd hsz hby hz hzs hlen hroom hbig hold1 hnew1
         obtain⟨g,rv⟩:=new_open R (el:=el) (sz:=sz) (k:=l+n) (cap:=cap) (cells:=old++xs) (cells':=old'++new) (rest:=rest) hs0 (hro.append hrn) (by simp[hol,hxl,srcWide,Nat.add_mul]) hcap hrest
         exact⟨_,_,_,hrun,g,rv⟩
       · -- it is not
        rename_i old ef hold
        split at e
        ·rename_i e1 cs es hg
         split at e
         ·rename_i hcond
          simp only[Bool.and_eq_true,Nat.ble_eq] at hcond
          obtain⟨⟨⟨he1,hone⟩,hlc⟩,ho0⟩:=hcond
          have ho0:=Nat.eq_of_beq_eq_true ho0
          have he1:=Nat.eq_of_beq_eq_true he1
          rw[he1] at hg
          simp only[Option.some.injEq,Prod.mk.injEq] at e
          obtain⟨rfl,rfl⟩:=e
          cases rs with
          |slice _ _ _ _ c' p hp hc=>
           obtain⟨hes,_,hfull⟩:=(fullOpen_ok E R hp hc hsz ef).2 rfl
           obtain⟨old',hold1,hro,hol⟩:=src_any (P:=P) (k:=l) (n:=l) R (.slice b o l c c' p hp hc) rfl (by simp) (Nat.le_refl _) hold
           have holen:(old++xs).length=(l+n) * sz:=by simp[hol,hxl,srcWide,Nat.add_mul]
           by_cases hin:l+n≤c'
           · -- in place
            obtain⟨q,hq,hoq⟩:=R.live _ _ hg
            rw[hp] at hq;simp only[Option.some.injEq] at hq;subst hq
            obtain⟨arr,fr,a1,a2,a3,a4,a5,a6,a7⟩:=hoq
            have hc2:o+c' * p.es≤p.size+p.extra:=by
             rcases hc with hc|⟨_,_,_,hc⟩
             ·omega
             ·exact hc
            rw[hes] at hc2
            have hm:(l+n) * sz≤c' * sz:=Nat.mul_le_mul_right _ hin
            have hml:l * sz+n * sz=(l+n) * sz:=by rw[Nat.add_mul]
            have hnl:new.length=n * sz:=by rw[← hrn.1,hxl]
            have hone':∀ v∈new,v.oneCell'=true:=by
             intro v hv
             obtain⟨i,hi,hiv⟩:=List.getElem_of_mem hv
             have hix:i < xs.length:=by rw[hrn.1];exact hi
             have hr:=hrn.2 i xs[i] new[i] (by simp[hix]) (by simp[hi])
             rw[hiv] at hr
             exact oneCell_eq hr (List.all_eq_true.1 hone _ (List.getElem_mem hix))
            obtain⟨u,arr',hu2,hu3,hu4,hu5,hu6,hu7,hu8,hu9⟩:=storeCells_row (P:=P) (pb:=p.pb) new arr w (p.po+o+l * sz) 0 a1 (by omega) (fun j hj=>a7.1 rfl j (by omega)) hone'
            let q:Place:=⟨p.pb,p.po+o,(l+n) * sz,p.size+p.extra - o - (l+n) * sz,sz⟩
            have hle:μ.le (μ.upd h.nx q):=Loc.le_upd (R.fresh _ (Nat.le_refl _))
            have hseg:old'=(arr.toList.drop (p.po+o)).take (l * sz):=by
             have h1:=hold1 w rfl
             simp only[Builtin.firstCells] at h1
             have h2:=run_loadCells (P:=P) w ⟨p.pb,p.po+o,none⟩ (l * sz) (fun j=>arr.getD (p.po+o+j) undef) (fun j hj=>by
              rw[addr_add,cell_of_row w p.pb _ arr el fr a1,Array.getElem?_eq_getElem (by omega)]
              simp[Array.getD];omega)
             rw[h1] at h2
             simp only[Result.ok.injEq,and_true] at h2
             have h3:=congrArg Array.toList h2
             simp only at h3
             rw[h3]
             apply List.ext_getElem?
             intro j
             rw[List.getElem?_take,List.getElem?_drop]
             by_cases hj:j < l * sz
             ·rw[if_pos hj]
              simp[hj]
              rw[Array.getElem?_eq_getElem (by omega)]
              simp
             ·rw[if_neg hj]
              simp[hj]
            have harr:(arr'.toList.drop (p.po+o)).take ((l+n) * sz)=old'++new:=by
             rw[hu4,hseg]
             simp only[Nat.add_zero]
             have hal:arr.toList.length=arr.size:=by simp
             rw[List.append_assoc,List.drop_append_of_le_length (by simp;omega),List.drop_take,show p.po+o+l * sz - (p.po+o)=l * sz by omega]
             rw[List.take_append,List.length_take,List.length_drop]
             rw[show min (l * sz) (arr.toList.length - (p.po+o))=l * sz by omega]
             rw[List.take_of_length_le (by simp;omega)]
             have key:∀ t:List Value,(new++t).take ((l+n) * sz - l * sz)=new:=by
              intro t
              rw[List.take_append_of_le_length (by omega),List.take_of_length_le (by omega)]
             rw[key]
            have harrs:arr'.size=arr.size:=by
             have:=congrArg List.length hu4
             simp at this
             omega
            have g:=go_take (o:=.row el (old++xs) sz false) (q:=q) R hg hp rfl hu5 hu6 hu7 hu8 hu9 (by
             refine⟨arr',fr,hu3,holen.symm,rfl,?_,⟨fun h=>absurd h hs0,fun _=>by show p.po+o=0;rw[a5.2 rfl,ho0]⟩,?_,?_⟩
             ·show arr'.size=p.po+o+(l+n) * sz+(p.size+p.extra - o - (l+n) * sz)
              omega
             ·show LRel _ _ ((arr'.toList.drop (p.po+o)).take ((l+n) * sz))
              rw[harr]
              exact(hro.append hrn).mono hle
             ·refine⟨?_,fun h=>by cases h⟩
              intro _ i hi hh
              have hi':p.po+o≤i:=hi
              exact a7.1 rfl i (by omega) ⟨hh.1,hh.2.1,by omega⟩)
            refine⟨_,u,_,append_room E hst hxt hu hx hd hsz hlen hin hnew (fun a ha=>?_) (fun h=>by simp at h),g,?_⟩
            ·simp only[Option.some.injEq] at ha;subst ha
             rw[addr_add]
             exact hu2
            ·refine .slice h.nx 0 (l+n) (l+n) c' q (Loc.upd_same _ _ _) (.inr ⟨hs0,?_,hin,?_⟩)
             ·show 0+(l+n) * sz=(l+n) * sz
              omega
             ·show 0+c' * sz≤(l+n) * sz+(p.size+p.extra - o - (l+n) * sz)
              omega
           · -- a new row
            obtain⟨cap,rest,hcap,hrest,hrun⟩:=append_grow (rt:=rt) E hst hxt hu hx hd hsz hby hz hzs hlen hin hbig hold1 hnew1
            have gk:=go_kill R b
            obtain⟨g,rv⟩:=new_open gk.rep (el:=el) (sz:=sz) (k:=l+n) (cap:=cap) (cells:=old++xs) (cells':=old'++new) (rest:=rest) hs0 (hro.append hrn) holen hcap hrest
            exact⟨_,_,_,hrun,gk.trans g,rv⟩
         ·simp at e
        ·simp at e
       ·simp at e
      ·simp at e
     ·simp at e
    ·simp at e
   ·simp at e
  ·simp at e
 ·simp at e
end
end Go.PanE
