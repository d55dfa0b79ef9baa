/-
 Part 4 of the proof of Rows.DumpReadsCardSaid: The small machine's quiet operations: literals, lengths, the least and the greatest; and all quiet operations together. Under the condition that it asks the program truly (EnvOK).
 All quiet operations of the small machine: what they make is what the model's make, and the world stays. Under the condition that it asks the program truly (EnvOK).
 What the small machine's new objects and stores are in the model's world. Under the condition that it asks the program truly (EnvOK).
-/
import Derived.Test.YtihkphfmnnndfaaGreatDoorT03
namespace Go.PanE
section
variable {P:Program} {env:Env} {μ:Loc} {h:Heap} {w:World} {tm:T Value} {tmps:Array Value}
theorem run_mapM_list{α β:Type}(f:α→Sem β)(g:α→β)(hf:∀ a,(f a).run P w= .ok (g a) w):∀ (l:List α),(l.mapM f).run P w= .ok (l.map g) w:=by
 intro l
 induction l with
 |nil=>simp
 |cons a l ih=>simp[List.mapM_cons,hf,ih]
theorem run_mapM_list'{α β:Type}(f:α→Sem β)(g:α→β):∀ (l:List α),(∀ a,a∈l→(f a).run P w= .ok (g a) w)→(l.mapM f).run P w= .ok (l.map g) w:=by
 intro l
 induction l with
 |nil=>intro _;simp
 |cons a l ih=>
  intro hf
  have h1:=hf a (by simp)
  have h2:=ih (fun b hb=>hf b (by simp[hb]))
  simp[List.mapM_cons,h1,h2]
theorem run_mapM_array{α β:Type}(f:α→Sem β)(g:α→β)(xs:Array α)(hf:∀ a,a∈xs.toList→(f a).run P w= .ok (g a) w):(xs.mapM f).run P w= .ok (xs.map g) w:=by
 rw[Array.mapM_eq_mapM_toList]
 simp only[Sem.run_map,run_mapM_list' f g xs.toList hf,Result.andThen_ok]
 congr 1
 apply Array.ext'
 simp
theorem setCells_len:∀ (vs cs:List Value) (off:Nat),(setCells cs off vs).length=cs.length:=by
 intro vs
 induction vs with
 |nil=>intro cs off;rfl
 |cons v vs ih=>intro cs off;simp[setCells,ih]
theorem LRel.len{l l':List Value}(r:LRel μ l l'):l.length=l'.length:=r.1
theorem LRel.head{x x':Value}{l l':List Value}(r:LRel μ (x::l) (x'::l')):VRel μ x x':=r.2 0 x x' rfl rfl
theorem LRel.tail{x x':Value}{l l':List Value}(r:LRel μ (x::l) (x'::l')):LRel μ l l':=
 ⟨by have:=r.1;simpa using this,fun i a b ha hb=>r.2 (i+1) a b (by simpa using ha) (by simpa using hb)⟩
theorem LRel.cases{l l':List Value}(r:LRel μ l l'):(l=[]∧l'=[])∨∃ x x' m m',l=x::m∧l'=x'::m'∧VRel μ x x'∧LRel μ m m':=by
 cases l with
 |nil=>
  have:l'=[]:=by have:=r.1;simpa using this.symm
  exact .inl ⟨rfl,this⟩
 |cons x m=>
  cases l' with
  |nil=>have:=r.1;simp at this
  |cons x' m'=>exact .inr ⟨x,x',m,m',rfl,rfl,r.head,r.tail⟩
theorem foldl_set_ok:∀ (vs vs':List Value) (k:Nat) (cs:List Value) (cs':Array Value) (off:Nat),LRel μ vs vs'→LRel μ cs cs'.toList→
  LRel μ (setCells cs (off+k) vs) ((vs'.zipIdx k).foldl (fun(cs:Array Value) (x:Value×Nat)=>cs.setIfInBounds (off+x.2) x.1) cs').toList:=by
 intro vs
 induction vs with
 |nil=>
  intro vs' k cs cs' off r rc
  rcases r.cases with⟨_,rfl⟩|⟨x,x',m,m',h,_⟩
  ·simpa[setCells] using rc
  ·simp at h
 |cons v vs ih=>
  intro vs' k cs cs' off r rc
  rcases r.cases with⟨h,_⟩|⟨x,x',m,m',h,rfl,rx,rm⟩
  ·simp at h
  ·simp only[List.cons.injEq] at h
   obtain⟨rfl,rfl⟩:=h
   simp only[setCells,List.zipIdx_cons,List.foldl_cons]
   have:=ih m' (k+1) (cs.set (off+k) v) (cs'.setIfInBounds (off+k) x') off rm (by simpa using rc.set (off+k) rx)
   rw[show off+k+1=off+(k+1) by omega]
   exact this
theorem fill_ok{place place':Nat→Option (Nat×Nat)}(hp:∀ i r,place i=some r→place' i=some r):∀ (ps:List (Nat×Value)) (ps':List (Nat×Value)) (cs:List Value) (cs':Array Value) (out:List Value),
  ps.map (·.1)=ps'.map (·.1)→LRel μ (ps.map (·.2)) (ps'.map (·.2))→LRel μ cs cs'.toList→fillA place cs ps=some out→
  ∃ out':Array Value,Instr.fill place' cs' ps'=some out'∧LRel μ out out'.toList:=by
 intro ps
 induction ps with
 |nil=>
  intro ps' cs cs' out hi hv hc e
  simp only[fillA,Option.some.injEq] at e;subst e
  have:ps'=[]:=by simpa using hi.symm
  subst this
  exact⟨cs',rfl,hc⟩
 |cons p ps ih=>
  intro ps' cs cs' out hi hv hc e
  obtain⟨i,v⟩:=p
  cases ps' with
  |nil=>simp at hi
  |cons p' ps'=>
   obtain⟨i',v'⟩:=p'
   simp only[List.map_cons,List.cons.injEq] at hi
   replace hv:LRel μ (v::ps.map (·.2)) (v'::ps'.map (·.2)):=hv
   obtain⟨rfl,hi⟩:=hi
   simp only[fillA] at e
   split at e
   ·simp at e
   ·rename_i off size hpl
    split at e
    ·rename_i hb
     simp only[Bool.and_eq_true,Nat.ble_eq] at hb
     have hb1:=Nat.eq_of_beq_eq_true hb.1
     have rv:=LRel.cells hv.head
     have hl:=rv.1
     have hcl:=hc.1
     obtain⟨out',ho,ro⟩:=ih ps' _ ((v'.cells.zipIdx.foldl (fun cs (c,j)=>cs.setIfInBounds (off+j) c) cs')) out hi hv.tail (by
      have:=foldl_set_ok v.cells.toList v'.cells.toList 0 cs cs' off rv hc
      simp only[Nat.add_zero] at this
      rw[← Array.foldl_toList,Array.toList_zipIdx]
      exact this) e
     refine⟨out',?_,ro⟩
     simp only[Instr.fill,hp _ _ hpl]
     rw[if_neg]
     ·exact ho
     ·simp only[Array.length_toList] at hb1 hl hcl hb
      simp
      omega
    ·simp at e
theorem rdParts_ok(R:TRel μ tm tmps){ds:List Deferred}:∀ {l:List (Nat×Operand)} {vs:List (Nat×Value)},rdParts tm l=some vs→
  vs.map (·.1)=l.map (·.1)∧LRel μ (vs.map (·.2)) (l.map fun p=>Act.eval ⟨tmps,ds⟩ p.2):=by
 intro l
 induction l with
 |nil=>intro vs e;simp only[rdParts,Option.some.injEq] at e;subst e;exact⟨rfl,.nil⟩
 |cons p l ih=>
  obtain⟨i,x⟩:=p
  intro vs e
  simp only[rdParts] at e
  split at e
  ·rename_i v r hv hr
   simp only[Option.some.injEq] at e;subst e
   obtain⟨h1,h2⟩:=ih hr
   exact⟨by simp[h1],.cons (rd_ok R hv) h2⟩
  ·simp at e
theorem allSized_ok(_E:EnvOK P env):∀ (l:List Field),allSized env l=true→∀ f,f∈l→∃ n,env.size f.type=some n:=by
 intro l
 induction l with
 |nil=>intro _ f hf;simp at hf
 |cons g l ih=>
  intro e f hf
  simp only[allSized,Bool.and_eq_true] at e
  simp only[List.mem_cons] at hf
  rcases hf with rfl|hf
  ·exact Option.isSome_iff_exists.1 e.1
  ·exact ih e.2 f hf
theorem build_ok(E:EnvOK P env){t:TypeId}{ps ps':List (Nat×Value)}{v:Value}(hi:ps.map (·.1)=ps'.map (·.1))(hv:LRel μ (ps.map (·.2)) (ps'.map (·.2)))
  (e:buildA env t ps=some v):∃ v',(Instr.build t ⟨ps'⟩).run P w= .ok v' w∧VRel μ v v':=by
 unfold buildA at e
 split at e
 ·rename_i fs z hu hz
  split at e
  ·rename_i hs
   split at e
   ·rename_i cs hf
    simp only[Option.some.injEq] at e;subst e
    have zr:=(E.zero t z hz).2 μ
    have hrun:(fs.mapM (fun f=>do pure (f.offset,← sizeOf f.type):Field→Sem (Nat×Nat))).run P w= .ok (fs.map (fun f=>(f.offset,(env.size f.type).getD 0))) w:=by
     apply run_mapM_array
     intro f hf
     obtain⟨n,hn⟩:=allSized_ok E _ hs f hf
     simp[E.runSize hn,hn]
    obtain⟨out',ho,ro⟩:=fill_ok (place:=fieldPlaces env fs) (place':=fun i=>(fs.map (fun f=>(f.offset,(env.size f.type).getD 0)))[i]?) (by
     intro i r hr
     unfold fieldPlaces at hr
     split at hr
     ·rename_i f hf
      split at hr
      ·rename_i n hn
       simp only[Option.some.injEq] at hr;subst hr
       simp at hf
       simp[hf,hn]
      ·simp at hr
     ·simp at hr) ps ps' z.cells.toList z.cells cs hi hv (LRel.cells zr) hf
    refine⟨.agg out',?_,LRel.agg.2 ro⟩
    simp only[Instr.build,Sem.run_bind,E.runZero hz,Result.andThen_ok,E.runUnd hu,hrun,ho,Sem.run_pure]
   ·simp at e
  ·simp at e
 ·rename_i n el z hu hz
  split at e
  ·rename_i s hs
   split at e
   ·rename_i cs hf
    simp only[Option.some.injEq] at e;subst e
    have zr:=(E.zero t z hz).2 μ
    obtain⟨out',ho,ro⟩:=fill_ok (place:=fun i=>some (i * s,s)) (place':=fun i=>some (i * s,s)) (fun _ _ h=>h) ps ps' z.cells.toList z.cells cs hi hv (LRel.cells zr) hf
    refine⟨.agg out',?_,LRel.agg.2 ro⟩
    simp only[Instr.build,Sem.run_bind,E.runZero hz,Result.andThen_ok,E.runUnd hu,E.runSize hs,ho,Sem.run_pure]
   ·simp at e
  ·simp at e
 ·simp at e
theorem len_ok(E:EnvOK P env){ts:Array TypeId}{t rt:TypeId}{x x' v:Value}{rest:List Value}(ht:ts[0]? =some t)(hx:VRel μ x x')(e:lenA env t x=some v):
  ∃ v',(Builtin.len_ ts rt ⟨x'::rest⟩).run P w= .ok v' w∧VRel μ v v':=by
 unfold lenA at e
 split at e
 ·rename_i s hu
  cases hx
  simp only[Option.some.injEq] at e;subst e
  exact⟨goInt s.size,by simp[Builtin.len_,ht,E.runUnd hu],by simp;exact .int _ _⟩
 ·rename_i n el hu
  simp only[Option.some.injEq] at e;subst e
  refine⟨goInt n,?_,.int _ _⟩
  simp only[Builtin.len_,ht]
  cases hx <;>simp[E.runUnd hu]
 ·rename_i el a n c hu
  simp only[Option.some.injEq] at e;subst e
  cases hx
  ·exact⟨goInt (0:Nat),by simp[Builtin.len_,ht,E.runUnd hu],.int _ _⟩
  ·exact⟨goInt n,by simp[Builtin.len_,ht,E.runUnd hu],.int _ _⟩
 ·simp at e
end
end Go.PanE
namespace Go.PanE
section
variable {P:Program} {env:Env} {μ:Loc} {h:Heap} {w:World} {tm:T Value} {tmps:Array Value}
theorem min_fold:∀ (l l':List Value) (k:IntKind) (x:Int) (v:Value),LRel μ l l'→minA (fun y x=>decide (y < x)) (.int k x) l=some v→
  (l'.foldlM Builtin.min2 (.int k x)).run P w= .ok v w∧VRel μ v v:=by
 intro l
 induction l with
 |nil=>
  intro l' k x v r e
  rcases r.cases with⟨_,rfl⟩|⟨_,_,_,_,h,_⟩
  ·simp only[minA,Option.some.injEq] at e;subst e;exact⟨by simp,.int _ _⟩
  ·simp at h
 |cons y l ih=>
  intro l' k x v r e
  rcases r.cases with⟨h,_⟩|⟨y1,y',m,m',h,rfl,ry,rm⟩
  ·simp at h
  ·simp only[List.cons.injEq] at h;obtain⟨rfl,rfl⟩:=h
   unfold minA at e
   split at e
   ·rename_i h1 h2;simp at h2
   ·rename_i k1 x1 k2 y2 l2 h1 h2
    simp only[List.cons.injEq] at h2;obtain⟨rfl,rfl⟩:=h2
    simp only[Value.int.injEq] at h1;obtain⟨rfl,rfl⟩:=h1
    cases ry
    have:=ih m' k _ v rm e
    simp only[List.foldlM_cons,Sem.run_bind,Builtin.min2,Sem.run_pure,Result.andThen_ok]
    by_cases hlt:y2 < x
    ·simp only[hlt,decide_true,if_true] at this ⊢;exact this
    ·simp only[hlt,decide_false,Bool.false_eq_true,if_false] at this ⊢;exact this
   ·simp at e
theorem max_fold:∀ (l l':List Value) (k:IntKind) (x:Int) (v:Value),LRel μ l l'→minA (fun y x=>decide (y>x)) (.int k x) l=some v→
  (l'.foldlM Builtin.max2 (.int k x)).run P w= .ok v w∧VRel μ v v:=by
 intro l
 induction l with
 |nil=>
  intro l' k x v r e
  rcases r.cases with⟨_,rfl⟩|⟨_,_,_,_,h,_⟩
  ·simp only[minA,Option.some.injEq] at e;subst e;exact⟨by simp,.int _ _⟩
  ·simp at h
 |cons y l ih=>
  intro l' k x v r e
  rcases r.cases with⟨h,_⟩|⟨y1,y',m,m',h,rfl,ry,rm⟩
  ·simp at h
  ·simp only[List.cons.injEq] at h;obtain⟨rfl,rfl⟩:=h
   unfold minA at e
   split at e
   ·rename_i h1 h2;simp at h2
   ·rename_i k1 x1 k2 y2 l2 h1 h2
    simp only[List.cons.injEq] at h2;obtain⟨rfl,rfl⟩:=h2
    simp only[Value.int.injEq] at h1;obtain⟨rfl,rfl⟩:=h1
    cases ry
    have:=ih m' k _ v rm e
    simp only[List.foldlM_cons,Sem.run_bind,Builtin.max2,Sem.run_pure,Result.andThen_ok]
    by_cases hlt:y2>x
    ·simp only[hlt,decide_true,if_true] at this ⊢;exact this
    ·simp only[hlt,decide_false,Bool.false_eq_true,if_false] at this ⊢;exact this
   ·simp at e
theorem minA_int{less:Int→Int→Bool}{x v:Value}{l:List Value}(e:minA less x l=some v):∃ k n,x= .int k n:=by
 unfold minA at e
 split at e
 ·exact⟨_,_,rfl⟩
 ·exact⟨_,_,rfl⟩
 ·simp at e
theorem cap_ok(E:EnvOK P env)(R:Rep μ h w){ts:Array TypeId}{t rt:TypeId}{x x' v:Value}{rest:List Value}(ht:ts[0]? =some t)(hx:VRel μ x x')(e:capA env h t x=some v):
  ∃ v',(Builtin.cap_ ts rt ⟨x'::rest⟩).run P w= .ok v' w∧VRel μ v v':=by
 unfold capA at e
 split at e
 ·rename_i el l n hu
  simp only[Option.some.injEq] at e;subst e
  cases hx
  exact⟨goInt (0:Nat),by simp[Builtin.cap_,ht,E.runUnd hu],.int _ _⟩
 ·rename_i el b o l n hu
  split at e
  ·rename_i hf
   simp only[Option.some.injEq] at e;subst e
   cases hx with
   |slice _ _ _ _ c' p hp hc=>
    have hs:∃ s,env.size el=some s:=by
     unfold fullOpen at hf
     split at hf
     ·rename_i hs;exact⟨_,hs⟩
     ·simp at hf
    obtain⟨s,hs⟩:=hs
    have:=(fullOpen_ok E R hp hc hs hf).1 rfl
    subst this
    exact⟨goInt c',by simp[Builtin.cap_,ht,E.runUnd hu],.int _ _⟩
  ·simp at e
 ·simp at e
theorem keyNums_rel:∀ {cs cs':List Value} {l:List Int},LRel μ cs cs'→keyNums cs=some l→cs'=cs:=by
 intro cs
 induction cs with
 |nil=>
  intro cs' l r e
  rcases r.cases with⟨_,rfl⟩|⟨_,_,_,_,h,_⟩
  ·rfl
  ·simp at h
 |cons x cs ih=>
  intro cs' l r e
  rcases r.cases with⟨h,_⟩|⟨x1,x',m,m',h,rfl,rx,rm⟩
  ·simp at h
  ·simp only[List.cons.injEq] at h;obtain⟨rfl,rfl⟩:=h
   unfold keyNums at e
   split at e
   ·rename_i h1;simp at h1
   ·rename_i n l2 h1
    simp only[List.cons.injEq] at h1;obtain⟨rfl,rfl⟩:=h1
    split at e
    ·rename_i r2 hr
     cases rx
     rw[ih rm hr]
    ·simp at e
   ·simp at e
theorem keyV_rel{x x':Value}{l:List Int}(r:VRel μ x x')(e:keyV x=some l):x'=x:=by
 unfold keyV at e
 split at e
 ·rename_i cs
  cases r with
  |agg _ xs' h1 h2=>
   have:=keyNums_rel (LRel.agg.1 (.agg _ _ h1 h2)) e
   congr 1
   apply Array.ext'
   exact this
 ·simp at e
theorem keyNums_inj:∀ {cs cs':List Value} {l:List Int},keyNums cs=some l→keyNums cs'=some l→cs=cs':=by
 intro cs
 induction cs with
 |nil=>
  intro cs' l e e'
  simp only[keyNums,Option.some.injEq] at e;subst e
  unfold keyNums at e'
  split at e'
  ·rfl
  ·split at e' <;>simp at e'
  ·simp at e'
 |cons x cs ih=>
  intro cs' l e e'
  unfold keyNums at e
  split at e
  ·rename_i h1;simp at h1
  ·rename_i n l2 h1
   simp only[List.cons.injEq] at h1;obtain⟨rfl,rfl⟩:=h1
   split at e
   ·rename_i r2 hr
    simp only[Option.some.injEq] at e;subst e
    unfold keyNums at e'
    split at e'
    ·simp at e'
    ·rename_i n' l3
     split at e'
     ·rename_i r3 hr3
      simp only[Option.some.injEq,List.cons.injEq] at e'
      obtain⟨rfl,rfl⟩:=e'
      rw[ih hr hr3]
     ·simp at e'
    ·simp at e'
   ·simp at e
  ·simp at e
theorem keyV_inj{x y:Value}{l:List Int}(e:keyV x=some l)(e':keyV y=some l):x=y:=by
 unfold keyV at e e'
 split at e
 ·split at e'
  ·congr 1
   apply Array.ext'
   exact keyNums_inj e e'
  ·simp at e'
 ·simp at e
/-- What findA says of the entries: all are keys; none is at k, or one alone is. -/
theorem findA_spec{kt:TypeId}{k:List Int}:∀ {es:List (Value×Value)} {r:Option Value},findA env kt k es=some r→
  (∀ e,e∈es→env.key kt e.1=true∧∃ a,keyV e.1=some a)∧
  match r with
  |none=>∀ e,e∈es→keyV e.1≠some k
  |some v=>∃ (i:Nat) (e:Value×Value),es[i]? =some e∧e.2=v∧keyV e.1=some k∧∀ (j:Nat) e',es[j]? =some e'→keyV e'.1=some k→j=i:=by
 intro es
 induction es with
 |nil=>
  intro r e
  simp only[findA,Option.some.injEq] at e;subst e
  exact⟨fun e h=>by simp at h,fun e h=>by simp at h⟩
 |cons x es ih=>
  intro r e
  unfold findA at e
  split at e
  ·rename_i hk
   split at e
   ·rename_i a r1 ha hr
    obtain⟨h1,h2⟩:=ih hr
    have hall:∀ e,e∈x::es→env.key kt e.1=true∧∃ a,keyV e.1=some a:=by
     intro y hy
     rcases List.mem_cons.1 hy with rfl|hy
     ·exact⟨hk,a,ha⟩
     ·exact h1 y hy
    refine⟨hall,?_⟩
    split at e
    ·rename_i hak
     subst hak
     cases r1 with
     |some v1=>simp at e
     |none=>
      simp only[Option.some.injEq] at e;subst e
      refine⟨0,x,rfl,rfl,ha,fun j e' hj hk'=>?_⟩
      cases j with
      |zero=>rfl
      |succ j=>exact absurd hk' (h2 e' (List.mem_of_getElem? (by simpa using hj)))
    ·rename_i hak
     simp only[Option.some.injEq] at e;subst e
     cases r1 with
     |none=>
      intro y hy
      rcases List.mem_cons.1 hy with rfl|hy
      ·rw[ha];simpa using hak
      ·exact h2 y hy
     |some v1=>
      obtain⟨i,e,h3,h4,h6,h5⟩:=h2
      refine⟨i+1,e,by simpa using h3,h4,h6,fun j e' hj hk'=>?_⟩
      cases j with
      |zero=>
       simp only[List.getElem?_cons_zero,Option.some.injEq] at hj;subst hj
       rw[ha] at hk'
       simp only[Option.some.injEq] at hk';exact absurd hk' hak
      |succ j=>rw[h5 j e' (by simpa using hj) hk']
   ·simp at e
  ·simp at e
/-- The model's entries of a map of ours. -/
theorem entry_of{es:List (Value×Value)}{arr:Array MapEntry}(hs:arr.size=es.length)
  (hr:∀ (i:Nat) e kv,arr[i]? =some e→es[i]? =some kv→VRel μ kv.1 e.key∧VRel μ kv.2 e.val) {i:Nat} {e:MapEntry} (hi:arr[i]? =some e):∃ kv,es[i]? =some kv∧VRel μ kv.1 e.key∧VRel μ kv.2 e.val:=by
 have hlt:i < es.length:=by
  rw[← hs]
  exact(Array.getElem?_eq_some_iff.1 hi).1
 exact⟨es[i],List.getElem?_eq_getElem hlt,hr i e _ hi (List.getElem?_eq_getElem hlt)⟩
/-- findKey, as findA says. -/
theorem find_ok(E:EnvOK P env){kt:TypeId}{kn:List Int}{k k':Value}{es:List (Value×Value)}{arr:Array MapEntry}{r:Option Value}(hk:env.key kt k=true)(hkn:keyV k=some kn)(rk:VRel μ k k')(hs:arr.size=es.length)
  (hr:∀ (i:Nat) e kv,arr[i]? =some e→es[i]? =some kv→VRel μ kv.1 e.key∧VRel μ kv.2 e.val) (e:findA env kt kn es=some r):
  k'=k∧(Instr.checkKey arr.isEmpty 10000 kt k').run P w= .ok () w∧(Instr.checkKey false 10000 kt k').run P w= .ok () w∧
  match r with
  |none=>(Instr.findKey kt k' arr.toList).run P w= .ok none w
  |some v=>∃ i v',(Instr.findKey kt k' arr.toList).run P w= .ok (some (i,v')) w∧VRel μ v v':=by
 have ek:=keyV_rel rk hkn
 subst ek
 obtain⟨K,lx,hx⟩:=E.key _ _ hk
 obtain⟨h1,h2⟩:=findA_spec e
 have hall:∀ y∈arr.toList,∃ l,keyOf P kt y.key=some l:=by
  intro y hy
  obtain⟨i,hi⟩:=List.getElem?_of_mem hy
  rw[Array.getElem?_toList] at hi
  obtain⟨kv,hkv,r1,_⟩:=entry_of hs hr hi
  obtain⟨q1,a,q2⟩:=h1 kv (List.mem_of_getElem? hkv)
  rw[keyV_rel r1 q2]
  exact(E.key _ _ q1).2
 refine⟨rfl,K.check w _ hx,K.check w _ hx,?_⟩
 rcases K.find w hx arr.toList hall with⟨f1,f2⟩|⟨j,e0,f1,f2,f3⟩
 ·cases r with
  |none=>exact f1
  |some v=>
   obtain⟨i,e1,g1,g2,g4,g3⟩:=h2
   have hlt:i < arr.size:=by
    rw[hs]
    exact(List.getElem?_eq_some_iff.1 g1).1
   have hi:arr[i]? =some arr[i]:=Array.getElem?_eq_getElem hlt
   obtain⟨r1,_⟩:=hr i _ _ hi g1
   have e2:arr[i].key=k':=(keyV_rel r1 g4).trans (keyV_inj g4 hkn)
   exact absurd e2 (f2 _ (List.mem_of_getElem? (by rw[Array.getElem?_toList];exact hi)))
 ·rw[Array.getElem?_toList] at f2
  obtain⟨kv,hkv,r1,r2⟩:=entry_of hs hr f2
  have hkk:keyV kv.1=some kn:=by
   obtain⟨q1,a,q2⟩:=h1 kv (List.mem_of_getElem? hkv)
   have:=keyV_rel r1 q2
   rw[← this,f3,hkn]
  cases r with
  |none=>exact absurd hkk (h2 kv (List.mem_of_getElem? hkv))
  |some v=>
   obtain⟨i,e1,g1,g2,g4,g3⟩:=h2
   have:=g3 j kv hkv hkk
   subst this
   rw[g1] at hkv
   simp only[Option.some.injEq] at hkv;subst hkv
   exact⟨j,e0.val,f1,g2▸r2⟩
theorem lookup_ok(E:EnvOK P env)(R:Rep μ h w){t:TypeId}{x x' k k' v:Value}{ok:Bool}(rx:VRel μ x x')(rk:VRel μ k k')(e:lookupA env h t x k ok=some v):
  ∃ v',(Instr.lookup t x' k' ok).run P w= .ok v' w∧VRel μ v v':=by
 unfold lookupA at e
 split at e
 ·rename_i kt el b hu
  split at e
  ·rename_i es kn z hg hk hkn hz
   cases rx with
   |map _ p hp=>
    obtain⟨p',hp',ho⟩:=R.live _ _ hg
    rw[hp] at hp'
    simp only[Option.some.injEq] at hp';subst hp'
    obtain⟨arr,clock,hw,hs,hr,_⟩:=ho
    have zr:=(E.zero el z hz).2 μ
    have hgo:(getObj p.pb).run P w= .ok (.map arr clock) w:=by simp[getObj,Sem.run,hw]
    split at e
    ·rename_i v1 hf
     obtain⟨rfl,c1,_,i,v',f1,r1⟩:=find_ok (w:=w) E hk hkn rk hs hr hf
     simp only[Option.some.injEq] at e;subst e
     cases ok with
     |true=>exact⟨.tuple #[v',.bool true],by simp[Instr.lookup,E.runUnd hu,hgo,c1,f1],LRel.tuple.2 (.cons r1 (.cons (.bool _) .nil))⟩
     |false=>exact⟨v',by simp[Instr.lookup,E.runUnd hu,hgo,c1,f1],r1⟩
    ·rename_i hf
     obtain⟨rfl,c1,_,f1⟩:=find_ok (w:=w) E hk hkn rk hs hr hf
     simp only[Option.some.injEq] at e;subst e
     cases ok with
     |true=>exact⟨.tuple #[z,.bool false],by simp[Instr.lookup,E.runUnd hu,hgo,c1,f1,E.runZero hz],LRel.tuple.2 (.cons zr (.cons (.bool _) .nil))⟩
     |false=>exact⟨z,by simp[Instr.lookup,E.runUnd hu,hgo,c1,f1,E.runZero hz],zr⟩
    ·simp at e
  ·simp at e
 ·simp at e
theorem lenM_ok(E:EnvOK P env)(R:Rep μ h w){ts:Array TypeId}{t rt:TypeId}{x x' v:Value}{rest:List Value}(ht:ts[0]? =some t)(hx:VRel μ x x')(e:lenM env h t x=some v):
  ∃ v',(Builtin.len_ ts rt ⟨x'::rest⟩).run P w= .ok v' w∧VRel μ v v':=by
 unfold lenM at e
 split at e
 ·rename_i kt el b hu
  split at e
  ·rename_i es hg
   simp only[Option.some.injEq] at e;subst e
   cases hx with
   |map _ p hp=>
    obtain⟨p',hp',ho⟩:=R.live _ _ hg
    rw[hp] at hp'
    simp only[Option.some.injEq] at hp';subst hp'
    obtain⟨arr,clock,hw,hs,_⟩:=ho
    have hgo:(getObj p.pb).run P w= .ok (.map arr clock) w:=by simp[getObj,Sem.run,hw]
    exact⟨goInt arr.size,by simp[Builtin.len_,ht,E.runUnd hu,hgo],by rw[hs];exact .int _ _⟩
  ·simp at e
 ·simp at e
theorem quiet_ok(E:EnvOK P env)(R:Rep μ h w)(TR:TRel μ tm tmps){ds:List Deferred}{o:Oper}{v:Value}(e:opQ env h tm o.op=some v):
  ∃ v',(execOp (Act.eval ⟨tmps,ds⟩) o).run P w= .ok (.value v') w∧VRel μ v v':=by
 have fin:∀ {s:Sem Value} {v':Value},s.run P w= .ok v' w→(do pure (.value (← s)):Sem Next).run P w= .ok (.value v') w:=by
  intro s v' hs
  simp[hs]
 unfold opQ at e
 unfold execOp
 split at e
 ·rename_i x ho
  rw[ho]
  exact⟨_,rfl,rd_ok TR e⟩
 ·rename_i x ho
  rw[ho]
  exact⟨_,rfl,rd_ok TR e⟩
 ·rename_i c a b ho
  rw[ho]
  split at e
  ·rename_i cb x y hc hx hy
   simp only[Option.some.injEq] at e;subst e
   have rc:=rd_ok (ds:=ds) TR hc
   generalize hcv:Act.eval ⟨tmps,ds⟩ c=c' at rc
   have hc':Act.eval ⟨tmps,ds⟩ c= .bool cb:=by rw[hcv];cases rc;rfl
   refine⟨if cb then Act.eval ⟨tmps,ds⟩ a else Act.eval ⟨tmps,ds⟩ b,by simp[asBool,hc'],?_⟩
   cases cb
   ·exact rd_ok TR hy
   ·exact rd_ok TR hx
  ·simp at e
 ·rename_i t x ho
  rw[ho]
  split at e
  ·rename_i a ha
   obtain⟨v',hr,rv⟩:=loadV_ok (P:=P) E R (rd_ok (ds:=ds) TR ha) e
   exact⟨v',fin hr,rv⟩
  ·simp at e
 ·rename_i op t x y yt ho
  rw[ho]
  split at e
  ·rename_i a b ha hb
   obtain⟨v',hr,rv⟩:=bin_ok (P:=P) (w:=w) E (rd_ok (ds:=ds) TR ha) (rd_ok (ds:=ds) TR hb) e
   exact⟨v',fin hr,rv⟩
  ·simp at e
 ·rename_i op t x ho
  rw[ho]
  split at e
  ·rename_i a ha
   obtain⟨v',hr,rv⟩:=un_ok (P:=P) (w:=w) (rd_ok (ds:=ds) TR ha) e
   exact⟨v',fin hr,rv⟩
  ·simp at e
 ·rename_i s d x ho
  rw[ho]
  split at e
  ·rename_i a ha
   obtain⟨v',hr,rv⟩:=conv_ok (P:=P) E R (rd_ok (ds:=ds) TR ha) e
   exact⟨v',fin hr,rv⟩
  ·simp at e
 ·rename_i t x ho
  rw[ho]
  split at e
  ·rename_i a d ha hd
   split at e
   ·simp at e
   ·rename_i hi
    simp only[Option.some.injEq] at e;subst e
    refine⟨.iface t (Act.eval ⟨tmps,ds⟩ x),fin ?_,.iface _ _ _ (rd_ok TR ha)⟩
    simp only[Instr.makeInterface,Sem.run_bind,E.runUnd hd,Result.andThen_ok]
    cases d <;>first|rfl|simp[isIface] at hi
  ·simp at e
 ·rename_i fn fi ca ho
  rw[ho]
  split at e
  ·rename_i a b ha hb
   simp only[Option.some.injEq] at e;subst e
   have ra:=rds_ok (ds:=ds) TR ha
   have rb:=rds_ok (ds:=ds) TR hb
   refine⟨.func fn (fi.map (Act.eval ⟨tmps,ds⟩)) (ca.map (Act.eval ⟨tmps,ds⟩)),fin rfl,?_⟩
   refine .func _ _ _ _ _ ?_ ?_ ?_ ?_
   ·simpa using ra.1
   ·intro i x x' hx hx'
    exact ra.2 i x x' (by simpa using hx) (by simpa using hx')
   ·simpa using rb.1
   ·intro i x x' hx hx'
    exact rb.2 i x x' (by simpa using hx) (by simpa using hx')
  ·simp at e
 ·rename_i t x f ho
  rw[ho]
  split at e
  ·rename_i a ha
   obtain⟨v',hr,rv⟩:=fieldAddr_ok (P:=P) (w:=w) E (rd_ok (ds:=ds) TR ha) e
   exact⟨v',fin hr,rv⟩
  ·simp at e
 ·rename_i t x f ho
  rw[ho]
  split at e
  ·rename_i a ha
   obtain⟨v',hr,rv⟩:=field_ok (P:=P) (w:=w) E (rd_ok (ds:=ds) TR ha) e
   exact⟨v',fin hr,rv⟩
  ·simp at e
 ·rename_i t x i ho
  rw[ho]
  split at e
  ·rename_i a b ha hb
   obtain⟨v',hr,rv⟩:=indexAddr_ok (P:=P) (w:=w) E (rd_ok (ds:=ds) TR ha) (rd_ok (ds:=ds) TR hb) e
   exact⟨v',fin hr,rv⟩
  ·simp at e
 ·rename_i t x i ho
  rw[ho]
  split at e
  ·rename_i a b ha hb
   obtain⟨v',hr,rv⟩:=index_ok (P:=P) (w:=w) E (rd_ok (ds:=ds) TR ha) (rd_ok (ds:=ds) TR hb) e
   exact⟨v',fin hr,rv⟩
  ·simp at e
 ·rename_i x i ho
  rw[ho]
  split at e
  ·rename_i a ha
   obtain⟨v',hr,rv⟩:=extract_ok (P:=P) (w:=w) (rd_ok (ds:=ds) TR ha) e
   exact⟨v',fin hr,rv⟩
  ·simp at e
 ·rename_i x ho
  rw[ho]
  split at e
  ·rename_i a ha
   simp only[Option.some.injEq] at e;subst e
   have ra:=rd_ok (ds:=ds) TR ha
   simp only
   generalize Act.eval ⟨tmps,ds⟩ x=x' at ra ⊢
   cases ra with
   |ptr b o p hp=>exact⟨_,rfl,.ptr b o p hp⟩
  ·simp at e
 ·rename_i t x lo hi mx ho
  rw[ho]
  split at e
  ·rename_i a ha
   obtain⟨v',hr,rv⟩:=slice_ok (P:=P) E R (rd_ok (ds:=ds) TR ha) (BRel.of TR lo) (BRel.of TR hi) (BRel.of TR mx) e
   exact⟨v',fin hr,rv⟩
  ·simp at e
 ·rename_i t ps ho
  rw[ho]
  split at e
  ·rename_i vs hvs
   obtain⟨h1,h2⟩:=rdParts_ok (ds:=ds) TR hvs
   obtain⟨v',hr,rv⟩:=build_ok (P:=P) (w:=w) (ps':=ps.toList.map fun p=>(p.1,Act.eval ⟨tmps,ds⟩ p.2)) E (by rw[List.map_map];exact h1) (by rw[List.map_map];exact h2) e
   refine⟨v',fin ?_,rv⟩
   rw[← hr]
   congr 2
   apply Array.ext'
   simp
  ·simp at e
 ·rename_i az ts ho
  rw[ho]
  split at e
  ·rename_i x l t hl ht
   have ra:=rds_ok (ds:=ds) TR hl
   rcases ra.cases with⟨h,_⟩|⟨x1,x',m,m',h,h',rx,rm⟩
   ·simp at h
   ·simp only[List.cons.injEq] at h;obtain⟨rfl,rfl⟩:=h
    have hlen:∃ v',(Builtin.len_ ts o.type ⟨x'::m'⟩).run P w= .ok v' w∧VRel μ v v':=by
     split at e
     ·rename_i v1 h1
      simp only[Option.some.injEq] at e;subst e
      exact len_ok (P:=P) (w:=w) (rt:=o.type) (rest:=m') E ht rx h1
     ·exact lenM_ok (P:=P) (rt:=o.type) (rest:=m') E R ht rx e
    obtain⟨v',hr,rv⟩:=hlen
    refine⟨v',?_,rv⟩
    have:az.map (Act.eval ⟨tmps,ds⟩)=⟨x'::m'⟩:=by apply Array.ext';simp[h']
    simp[resolve,invoke,builtin,this,hr]
  ·simp at e
 ·rename_i t x k ok ho
  rw[ho]
  split at e
  ·rename_i a b ha hb
   obtain⟨v',hr,rv⟩:=lookup_ok (P:=P) E R (rd_ok (ds:=ds) TR ha) (rd_ok (ds:=ds) TR hb) e
   exact⟨v',fin hr,rv⟩
  ·simp at e
 ·rename_i az ts ho
  rw[ho]
  split at e
  ·rename_i x l t hl ht
   have ra:=rds_ok (ds:=ds) TR hl
   rcases ra.cases with⟨h,_⟩|⟨x1,x',m,m',h,h',rx,rm⟩
   ·simp at h
   ·simp only[List.cons.injEq] at h;obtain⟨rfl,rfl⟩:=h
    obtain⟨v',hr,rv⟩:=cap_ok (P:=P) (rt:=o.type) (rest:=m') E R ht rx e
    refine⟨v',?_,rv⟩
    have:az.map (Act.eval ⟨tmps,ds⟩)=⟨x'::m'⟩:=by apply Array.ext';simp[h']
    simp[resolve,invoke,builtin,this,hr]
  ·simp at e
 ·rename_i az ts ho
  rw[ho]
  split at e
  ·rename_i x l hl
   have ra:=rds_ok (ds:=ds) TR hl
   rcases ra.cases with⟨h,_⟩|⟨x1,x',m,m',h,h',rx,rm⟩
   ·simp at h
   ·simp only[List.cons.injEq] at h;obtain⟨rfl,rfl⟩:=h
    obtain⟨k,n,rfl⟩:=minA_int e
    cases rx
    obtain⟨hr,rv⟩:=min_fold (P:=P) (w:=w) l m' k n v rm e
    refine⟨v,?_,rv⟩
    simp[resolve,invoke,builtin,Builtin.min_,h',hr]
  ·simp at e
 ·rename_i az ts ho
  rw[ho]
  split at e
  ·rename_i x l hl
   have ra:=rds_ok (ds:=ds) TR hl
   rcases ra.cases with⟨h,_⟩|⟨x1,x',m,m',h,h',rx,rm⟩
   ·simp at h
   ·simp only[List.cons.injEq] at h;obtain⟨rfl,rfl⟩:=h
    obtain⟨k,n,rfl⟩:=minA_int e
    cases rx
    obtain⟨hr,rv⟩:=max_fold (P:=P) (w:=w) l m' k n v rm e
    refine⟨v,?_,rv⟩
    simp[resolve,invoke,builtin,Builtin.max_,h',hr]
  ·simp at e
 ·simp at e
end
end Go.PanE
namespace Go.PanE
section
variable {P:Program} {env:Env} {μ:Loc} {h:Heap} {w:World} {tm:T Value} {tmps:Array Value}
def Loc.upd(μ:Loc)(b:Nat)(p:Place):Loc:=fun x=>if x=b then some p else μ x
theorem Loc.upd_same(μ:Loc)(b:Nat)(p:Place):μ.upd b p b=some p:=by simp[Loc.upd]
theorem Loc.upd_other(μ:Loc)(b c:Nat)(p:Place)(e:c≠b):μ.upd b p c=μ c:=by simp[Loc.upd,e]
theorem Loc.le_upd{μ:Loc}{b:Nat}{p:Place}(e:μ b=none):μ.le (μ.upd b p):=by
 intro c q hc
 by_cases hcb:c=b
 ·subst hcb;rw[e] at hc;simp at hc
 ·rw[Loc.upd_other _ _ _ _ hcb];exact hc
/-- A new object in a new block. -/
theorem go_alloc(R:Rep μ h w){p:Place}{o:AObj}{u:World}(hs:u.heap.size=w.heap.size+1)(hold:∀ k,k < w.heap.size→u.heap[k]? =w.heap[k]?)
  (hos:u.os=w.os) (hout:u.output=w.output) (htape:u.tape=w.tape) (hp:p.pb=w.heap.size) (ho:ORel (μ.upd h.nx p) u p o):
  Go1 μ h w (μ.upd h.nx p) (h.alloc o) u:=by
 have hle:μ.le (μ.upd h.nx p):=Loc.le_upd (R.fresh _ (Nat.le_refl _))
 refine⟨hle,⟨?_,?_,?_,?_,R.glob.mono hle⟩,by omega,?_,fun k hk _=>hold k hk,hos,hout,htape,Nat.le_succ _,fun b hb=>Loc.upd_other _ _ _ _ (by omega)⟩
 ·intro b x hb
  rw[Heap.get_alloc] at hb
  split at hb
  ·rename_i e
   subst e
   simp only[Option.some.injEq] at hb;subst hb
   exact⟨p,Loc.upd_same _ _ _,ho⟩
  ·rename_i e
   obtain⟨q,hq,hoq⟩:=R.live b x hb
   have hlt:=R.bound b q hq
   exact⟨q,by rw[Loc.upd_other _ _ _ _ e];exact hq,(hoq.mono hle).world (hold _ hlt)⟩
 ·intro b b' x x' q q' hb hb' hq hq' hpb
  rw[Heap.get_alloc] at hb hb'
  by_cases e:b=h.nx <;>by_cases e':b'=h.nx
  ·rw[e,e']
  ·exfalso
   rw[if_neg e'] at hb'
   rw[e,Loc.upd_same] at hq
   rw[Loc.upd_other _ _ _ _ e'] at hq'
   simp only[Option.some.injEq] at hq;subst hq
   have:=R.bound _ _ hq'
   omega
  ·exfalso
   rw[if_neg e] at hb
   rw[e',Loc.upd_same] at hq'
   rw[Loc.upd_other _ _ _ _ e] at hq
   simp only[Option.some.injEq] at hq';subst hq'
   have:=R.bound _ _ hq
   omega
  ·rw[if_neg e] at hb
   rw[if_neg e'] at hb'
   rw[Loc.upd_other _ _ _ _ e] at hq
   rw[Loc.upd_other _ _ _ _ e'] at hq'
   exact R.inj b b' x x' q q' hb hb' hq hq' hpb
 ·intro b hb
  have:b≠h.nx:=by
   show b≠h.nx
   have:h.nx+1≤b:=hb
   omega
  rw[Loc.upd_other _ _ _ _ this]
  exact R.fresh b (by have:h.nx+1≤b:=hb;omega)
 ·intro b q hq
  by_cases e:b=h.nx
  ·rw[e,Loc.upd_same] at hq
   simp only[Option.some.injEq] at hq;subst hq
   omega
  ·rw[Loc.upd_other _ _ _ _ e] at hq
   have:=R.bound b q hq
   omega
 ·rintro k ⟨b,x,q,hb,hq,rfl⟩ hk
  rw[Heap.get_alloc] at hb
  by_cases e:b=h.nx
  ·rw[e,Loc.upd_same] at hq
   simp only[Option.some.injEq] at hq;subst hq
   omega
  ·rw[if_neg e] at hb
   rw[Loc.upd_other _ _ _ _ e] at hq
   exact⟨b,x,q,hb,hq,rfl⟩
/-- An object that takes another one's content, in its block. -/
theorem go_put(R:Rep μ h w){b:Nat}{p:Place}{x o:AObj}{u:World}(hb:h.get b=some x)(hp:μ b=some p)(hs:u.heap.size=w.heap.size)
  (hold:∀ k,k≠p.pb→u.heap[k]? =w.heap[k]?) (hos:u.os=w.os) (hout:u.output=w.output) (htape:u.tape=w.tape) (ho:ORel μ u p o):
  Go1 μ h w μ (h.put b o) u:=by
 have hlt:=Heap.lt_of_get hb
 refine⟨μ.le_refl,⟨?_,?_,R.fresh,?_,R.glob⟩,by omega,?_,?_,hos,hout,htape,Nat.le_refl _,fun _ _=>rfl⟩
 ·intro c y hc
  rw[Heap.get_put _ _ _ _ hlt] at hc
  split at hc
  ·rename_i e
   subst e
   simp only[Option.some.injEq] at hc;subst hc
   exact⟨p,hp,ho⟩
  ·rename_i e
   obtain⟨q,hq,hoq⟩:=R.live c y hc
   refine⟨q,hq,hoq.world (hold _ ?_)⟩
   intro hpb
   exact e (R.inj c b y x q p hc hb hq hp hpb)
 ·intro c c' y y' q q' hc hc' hq hq' hpb
  rw[Heap.get_put _ _ _ _ hlt] at hc hc'
  have g:∀ d z,(if d=b then some o else h.get d)=some z→∃ z',h.get d=some z':=by
   intro d z hd
   split at hd
   ·rename_i e;subst e;exact⟨x,hb⟩
   ·exact⟨z,hd⟩
  obtain⟨z,hz⟩:=g c y hc
  obtain⟨z',hz'⟩:=g c' y' hc'
  exact R.inj c c' z z' q q' hz hz' hq hq' hpb
 ·intro c q hq
  have:=R.bound c q hq
  omega
 ·rintro k ⟨c,y,q,hc,hq,rfl⟩ _
  rw[Heap.get_put _ _ _ _ hlt] at hc
  split at hc
  ·rename_i e;subst e;exact⟨c,x,q,hb,hq,rfl⟩
  ·exact⟨c,y,q,hc,hq,rfl⟩
 ·intro k hk hown
  refine hold k ?_
  rintro rfl
  exact hown ⟨b,x,p,hb,hp,rfl⟩
/-- A change of what no object is: draws. -/
theorem go_same(R:Rep μ h w){u:World}(hh:u.heap=w.heap)(hos:u.os=w.os)(hout:u.output=w.output)(htape:u.tape=w.tape):Go1 μ h w μ h u:=by
 refine⟨μ.le_refl,⟨?_,R.inj,R.fresh,?_,R.glob⟩,by rw[hh];exact Nat.le_refl _,fun k hk _=>hk,fun k _ _=>by rw[hh],hos,hout,htape,Nat.le_refl _,fun _ _=>rfl⟩
 ·intro b o hb
  obtain⟨p,hp,ho⟩:=R.live b o hb
  exact⟨p,hp,ho.world (by rw[hh])⟩
 ·intro b p hp
  rw[hh];exact R.bound b p hp
theorem oneCell_eq{v v':Value}(r:VRel μ v v')(e:oneCell v=true):v'.oneCell'=true:=by
 cases r <;>first|rfl|simp[oneCell] at e
/-- Cells of a row are written. -/
theorem storeC_ok{b o:Nat}{p:Place}(hp:μ b=some p):∀ (vs vs':List Value) (k:Nat) (h h':Heap) (w:World),Rep μ h w→LRel μ vs vs'→
  storeC h ⟨b,o+k,none⟩ vs=some h'→∃ u,(storeCells ⟨p.pb,p.po+o,none⟩ vs' k).run P w= .ok () u∧Go1 μ h w μ h' u:=by
 intro vs
 induction vs with
 |nil=>
  intro vs' k h h' w R r e
  rcases r.cases with⟨_,rfl⟩|⟨_,_,_,_,hnil,_⟩
  ·refine⟨w,rfl,?_⟩
   unfold storeC at e
   split at e
   ·rename_i el cells es hg hs
    simp only[setL,Option.some.injEq] at e;subst e
    obtain⟨q,hq,ho⟩:=R.live _ _ hg
    simp only at hq hg
    rw[hp] at hq;simp only[Option.some.injEq] at hq;subst hq
    exact go_put R hg hp rfl (fun _ _=>rfl) rfl rfl rfl ho
   ·simp at e
  ·simp at hnil
 |cons v vs ih=>
  intro vs' k h h' w R r e
  rcases r.cases with⟨h1,_⟩|⟨x,v',m,m',h1,rfl,rv,rm⟩
  ·simp at h1
  simp only[List.cons.injEq] at h1
  obtain⟨rfl,rfl⟩:=h1
  unfold storeC at e
  split at e
  ·rename_i el cells es hg hs
   simp only at hg
   split at e
   ·rename_i cells' hset
    simp only[Option.some.injEq] at e;subst e
    simp only[setL] at hset
    split at hset
    ·rename_i hone
     split at hset
     ·rename_i hlt
      obtain⟨q,hq,ho⟩:=R.live _ _ hg
      rw[hp] at hq;simp only[Option.some.injEq] at hq;subst hq
      have ho':=ho
      obtain⟨arr,fr,a1,a2,a3,a4,a5,a6,a7⟩:=ho
      have hpb:=R.bound _ _ hp
      have hc:w.cell? ⟨p.pb,p.po+o+k,none⟩=some (arr[p.po+o+k]'(by omega)):=by
       rw[cell_of_row w p.pb _ arr el fr a1,Array.getElem?_eq_getElem (by omega)]
      have hf:w.frozen? ⟨p.pb,p.po+o+k,none⟩=false:=by
       have:=a7.1 rfl (p.po+o+k) (by omega)
       simp only[World.frozen?,a1]
       simp only[Bool.and_eq_false_iff,decide_eq_false_iff_not]
       by_cases h1:fr.1≤p.po+o+k
       ·right;intro h2;exact this ⟨h1,h2,by omega⟩
       ·left;exact h1
      have hrun:(store ((⟨p.pb,p.po+o,none⟩:Addr).add k) v').run P w= .ok () (w.setCell ⟨p.pb,p.po+o+k,none⟩ v'):=by
       simp only[addr_add]
       rw[run_store P w _ _ _ (oneCell_eq rv hone)]
       simp[hc,hf]
      have hheap:(w.setCell ⟨p.pb,p.po+o+k,none⟩ v').heap[p.pb]? =some (.cells (arr.setIfInBounds (p.po+o+k) v') el fr):=by
       simp[World.setCell,Array.getElem?_modify,a1]
      have g1:Go1 μ h w μ (h.put b (.row el (cells.set (o+k) v) es false)) (w.setCell ⟨p.pb,p.po+o+k,none⟩ v'):=by
       refine go_put R hg hp (by simp[World.setCell]) (fun j hj=>?_) rfl rfl rfl ?_
       ·simp only[World.setCell,Array.getElem?_modify]
        rw[if_neg (fun e=>hj e.symm)]
       ·refine⟨_,fr,hheap,by simpa using a2,a3,by simpa using a4,a5,?_,⟨fun hr i hi hh=>a7.1 hr i hi ⟨hh.1,hh.2.1,by simpa using hh.2.2⟩,a7.2⟩⟩
        have:=a6.set (o+k) rv
        rw[show((arr.setIfInBounds (p.po+o+k) v').toList.drop p.po).take p.size=((arr.toList.drop p.po).take p.size).set (o+k) v' by
         rw[Array.toList_setIfInBounds,List.drop_set,if_neg (by omega),List.take_set]
         congr 1;omega]
        exact this
      have hg2:(h.put b (.row el (cells.set (o+k) v) es false)).get b=some (.row el (cells.set (o+k) v) es false):=by
       rw[Heap.get_put _ _ _ _ (Heap.lt_of_get hg)];simp
      obtain⟨u,hu,g2⟩:=ih m' (k+1) (h.put b (.row el (cells.set (o+k) v) es false)) ((h.put b (.row el (cells.set (o+k) v) es false)).put b (.row el cells' es false)) _ g1.rep rm (by
       unfold storeC
       simp only[hg2]
       rw[show o+(k+1)=o+k+1 by omega,hset])
      refine⟨u,?_,?_⟩
      ·simp only[storeCells,Sem.run_bind]
       rw[hrun]
       simpa using hu
      · -- two puts in one block are one
       rw[Heap.put_put] at g2
       exact g1.trans g2
     ·simp at hset
    ·simp at hset
   ·simp at e
  ·simp at e
end
end Go.PanE
