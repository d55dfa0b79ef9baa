/-
 Part 6 of the proof of Rows.DumpReadsCardSaid: What writes or calls: the small machine's way is a way of the model's. Under the conditions that it asks the program truly (EnvOK) and that calls are as it says (CallOK).
 The small machine's statements and calls.
 Statements and calls of the small machine are such of the model's. Under the conditions that it asks the program truly (EnvOK), and that its drawn regions are true (DrawOK).
 The small machine's statements and calls are such of the model's; what it calls pure leaves the memory. Under the conditions that it asks the program truly (EnvOK), and that its drawn regions are true (DrawOK, DrawKeep).
-/
import Derived.Test.YtihkphfmnnndfaaGreatDoorT03
import Derived.Test.YtihkphfmnnndfaaGreatDoorT05
import Derived.LoopN
namespace Go.PanE
/-- What is said of calls is true. -/
def CallOK(P:Program)(call:FuncId→List Value→Heap→Option (Value×Heap)):Prop:=
 ∀ f args h v h',call f args h=some (v,h')→∀ (μ:Loc) (w:World) (args':List Value),Rep μ h w→LRel μ args args'→
  Calls P f ⟨args'⟩ w fun e u=>∃ ν v',e= .returned v'∧Go1 μ h w ν h' u∧VRel ν v v'
section
variable {P:Program} {env:Env} {μ:Loc} {h:Heap} {w:World} {tm:T Value} {tmps:Array Value} {call:FuncId→List Value→Heap→Option (Value×Heap)}
theorem wp_of_value{o:Oper}{a:Act}{next:Act→World→Prop}{Q:Exit→Act→World→Prop}{v:Value}{u:World}
  (hr:(execOp a.eval o).run P w= .ok (.value v) u) (hn:next (a.put o.dst v) u):o.wp P a w next Q:=by
 unfold Oper.wp
 rw[hr]
 exact hn
theorem next_run{s:ByteArray}{pos:Nat}{b:Nat}{ty:TypeId}(hb:w.heap[b]? =some (.stringIter s pos)):
  (Instr.next (.pointer (some ⟨b,0,none⟩)) true ty).run P w=
   if pos < s.size then .ok (.tuple #[.bool true,goInt pos,.int .i32 (Utf8.decode s pos).1]) {w with heap:=w.heap.setIfInBounds b (.stringIter s (pos+(Utf8.decode s pos).2))}
   else .ok (.tuple #[.bool false]) w:=by
 have hg:(getObj b).run P w= .ok (.stringIter s pos) w:=by
  simp[getObj,Sem.run,hb]
 simp only[Instr.next,Sem.run_bind,hg,Result.andThen_ok]
 split
 ·simp[setObj,Sem.run,hb]
 ·rfl
theorem mapUpdate_ok(E:EnvOK P env)(R:Rep μ h w){t kt el:TypeId}{b:Nat}{m' k k' v v':Value}{es:List (Value×Value)}{kn:List Int}(hu:env.und t=some (.map kt el))(hg:h.get b=some (.map es))(rm:VRel μ (.map (some b)) m')(rk:VRel μ k k')(rv:VRel μ v v')
  (hk:env.key kt k=true) (hkn:keyV k=some kn) (hf:findA env kt kn es=some none):
  ∃ u,(Instr.mapUpdate t m' k' v').run P w= .ok () u∧Go1 μ h w μ (h.put b (.map (es++[(k,v)]))) u:=by
 cases rm with
 |map _ p hp=>
  obtain⟨p',hp',ho⟩:=R.live _ _ hg
  rw[hp] at hp'
  simp only[Option.some.injEq] at hp';subst hp'
  obtain⟨arr,clock,hw,hs,hr,hb1,hb2⟩:=ho
  obtain⟨rfl,_,c1,f1⟩:=find_ok (w:=w) E hk hkn rk hs hr hf
  have hgo:(getObj p.pb).run P w= .ok (.map arr clock) w:=by simp[getObj,Sem.run,hw]
  have hlt:=R.bound _ _ hp
  refine⟨{w with heap:=w.heap.setIfInBounds p.pb (.map (arr.push {key:=k',val:=v',born:=clock}) (clock+1))},?_,?_⟩
  ·simp[Instr.mapUpdate,E.runUnd hu,hgo,c1,f1,setObj,Sem.run,hw]
  ·refine go_put (o:=.map (es++[(k',v)])) R hg hp (by simp) (fun k hk=>by simp only[Array.getElem?_setIfInBounds];rw[if_neg (fun e=>hk e.symm)]) rfl rfl rfl ?_
   refine⟨arr.push {key:=k',val:=v',born:=clock},clock+1,by simp[hlt],by simp[hs],?_,?_,?_⟩
   ·intro i e kv h1 h2
    rw[Array.getElem?_push] at h1
    split at h1
    ·rename_i hi
     simp only[Option.some.injEq] at h1;subst h1
     rw[List.getElem?_append_right (by omega)] at h2
     have:i - es.length=0:=by omega
     rw[this] at h2
     simp only[List.getElem?_cons_zero,Option.some.injEq] at h2;subst h2
     exact⟨rk,rv⟩
    ·rename_i hi
     have hi2:=(Array.getElem?_eq_some_iff.1 h1).1
     rw[List.getElem?_append_left (by omega)] at h2
     exact hr i e kv h1 h2
   ·intro i e h1
    rw[Array.getElem?_push] at h1
    split at h1
    ·simp only[Option.some.injEq] at h1;subst h1;exact Nat.lt_succ_self _
    ·exact Nat.lt_succ_of_lt (hb1 i e h1)
   ·intro i j e e' h1 h2 he
    rw[Array.getElem?_push] at h1 h2
    split at h1
    ·rename_i hi
     simp only[Option.some.injEq] at h1;subst h1
     split at h2
     ·rename_i hj;omega
     ·have:=hb1 j e' h2
      simp only at he;omega
    ·split at h2
     ·simp only[Option.some.injEq] at h2;subst h2
      have:=hb1 i e h1
      simp only at he;omega
     ·exact hb2 i j e e' h1 h2 he
theorem eff_ok(E:EnvOK P env)(R:Rep μ h w)(TR:TRel μ tm tmps)(C:CallOK P call){ds:List Deferred}{o:Oper}{v:Value}{h':Heap}(e:opE env call h tm o.op=some (v,h'))
  {next:Act→World→Prop} {Q:Exit→Act→World→Prop} (hn:∀ u ν v',Go1 μ h w ν h' u→VRel ν v v'→next (Act.put ⟨tmps,ds⟩ o.dst v') u):o.wp P ⟨tmps,ds⟩ w next Q:=by
 unfold opE at e
 split at e
 ·rename_i t a x ho
  split at e
  ·rename_i ad vx ha hx
   split at e
   ·rename_i h2 hst
    simp only[Option.some.injEq,Prod.mk.injEq] at e
    obtain⟨rfl,rfl⟩:=e
    obtain⟨u,hr,g⟩:=store_ok (P:=P) E R (rd_ok (ds:=ds) TR ha) (rd_ok (ds:=ds) TR hx) hst
    have:=hn u μ undef g VRel.undef
    unfold Oper.wp execOp
    rw[ho]
    simp only[Sem.run_bind,hr,Result.andThen_ok,Sem.run_pure]
    exact this
   ·simp at e
  ·simp at e
 ·rename_i t m k x ho
  split at e
  ·rename_i b kv vx hm hkv hx
   split at e
   ·rename_i kt el es kn hu hg hkn
    split at e
    ·rename_i hk
     split at e
     ·rename_i hf
      simp only[Option.some.injEq,Prod.mk.injEq] at e
      obtain⟨rfl,rfl⟩:=e
      obtain⟨u,hr,g⟩:=mapUpdate_ok (P:=P) E R hu hg (rd_ok (ds:=ds) TR hm) (rd_ok (ds:=ds) TR hkv) (rd_ok (ds:=ds) TR hx) hk hkn hf
      have:=hn u μ undef g VRel.undef
      unfold Oper.wp execOp
      rw[ho]
      simp only[Sem.run_bind,hr,Result.andThen_ok,Sem.run_pure]
      exact this
     ·simp at e
    ·simp at e
   ·simp at e
  ·simp at e
 ·rename_i it ho
  split at e
  ·rename_i b hb
   split at e
   ·rename_i s pos hg
    obtain⟨p,hp,hor⟩:=R.live _ _ hg
    have hor':w.heap[p.pb]? =some (.stringIter s pos):=hor.1
    have hpo:p.po=0:=hor.2
    have rb:=rd_ok (ds:=ds) TR hb
    generalize hbv:Act.eval ⟨tmps,ds⟩ it=bv at rb
    cases rb with
    |ptr _ _ q hq=>
     rw[hp] at hq;simp only[Option.some.injEq] at hq;subst hq
     have hadr:p.po+0=0:=by omega
     split at e
     ·rename_i hlt
      simp only[Option.some.injEq,Prod.mk.injEq] at e
      obtain⟨rfl,rfl⟩:=e
      have hb2:=R.bound _ _ hp
      have g:=go_put (o:=.siter s (pos+(Utf8.decode s pos).2)) (u:={w with heap:=w.heap.setIfInBounds p.pb (.stringIter s (pos+(Utf8.decode s pos).2))}) R hg hp (by simp)
       (fun k hk=>by simp only[Array.getElem?_setIfInBounds];rw[if_neg (fun e=>hk e.symm)]) rfl rfl rfl ⟨by simp[hb2],hpo⟩
      refine wp_of_value (v:=.tuple #[.bool true,goInt pos,.int .i32 (Utf8.decode s pos).1]) ?_ (hn _ μ _ g ?_)
      ·unfold execOp
       rw[ho]
       simp only[hbv,hadr,Sem.run_bind,next_run hor',hlt,if_true,Result.andThen_ok,Sem.run_pure]
      ·exact LRel.tuple.2 (.cons (.bool _) (.cons (.int _ _) (.cons (.int _ _) .nil)))
     ·rename_i hlt
      simp only[Option.some.injEq,Prod.mk.injEq] at e
      obtain⟨rfl,rfl⟩:=e
      refine wp_of_value (v:=.tuple #[.bool false]) ?_ (hn _ μ _ (Go1.refl R) ?_)
      ·unfold execOp
       rw[ho]
       simp only[hbv,hadr,Sem.run_bind,next_run hor',hlt,if_false,Result.andThen_ok,Sem.run_pure]
      ·exact LRel.tuple.2 (.cons (.bool _) .nil)
   ·simp at e
  ·simp at e
 ·rename_i f az ts ho
  split at e
  ·rename_i g fi ca vs hf hvs
   split at e
   ·rename_i fn hfn
    obtain⟨hF,hname,hbody⟩:=E.fn g fn hfn
    have rf:=rd_ok (ds:=ds) TR hf
    have rv:=rds_ok (ds:=ds) TR hvs
    generalize hfv:Act.eval ⟨tmps,ds⟩ f=fv at rf
    cases rf with
    |func _ _ xs' _ ys' h1 h2 h3 h4=>
     have hb:fn.body.isNone=false:=by cases hbb:fn.body <;>simp_all
     have hargs:LRel μ (fi.toList++vs++ca.toList) (xs'.toList++az.toList.map (Act.eval ⟨tmps,ds⟩)++ys'.toList):=by
      refine LRel.append (LRel.append ⟨by simpa using h1,fun i x x' hx hx'=>h2 i x x' (by simpa using hx) (by simpa using hx')⟩ rv) ⟨by simpa using h3,fun i x x' hx hx'=>h4 i x x' (by simpa using hx) (by simpa using hx')⟩
     have hc:=C g _ h v h' e μ w _ R hargs
     unfold Oper.wp execOp
     rw[ho]
     have hname':¬ (fn.name== "runtime.NumGoroutine")=true:=by rw[hname];simp
     simp only[resolve,hfv,Deferred.ofValue,pure_bind,Sem.run_bind,Sem.run_pure,Result.andThen_ok,invoke,callFunc,run_program,hF,hname',hb,Bool.false_eq_true,if_false,Oper.upon_enter]
     have harr:xs'++az.map (Act.eval ⟨tmps,ds⟩)++ys'=(⟨xs'.toList++az.toList.map (Act.eval ⟨tmps,ds⟩)++ys'.toList⟩:Array Value):=by
      apply Array.ext';simp
     rw[harr]
     refine hc.mono ?_
     rintro e' u ⟨ν,v',rfl,g1,rv'⟩
     exact hn u ν v' g1 rv'
   ·split at e
    ·rename_i x hx
     have rf:=rd_ok (ds:=ds) TR hf
     have rv:=rds_ok (ds:=ds) TR hvs
     generalize hfv:Act.eval ⟨tmps,ds⟩ f=fv at rf
     cases rf with
     |func _ _ xs' _ ys' h1 h2 h3 h4=>
      have hargs:LRel μ (fi.toList++vs++ca.toList) (xs'.toList++az.toList.map (Act.eval ⟨tmps,ds⟩)++ys'.toList):=by
       refine LRel.append (LRel.append ⟨by simpa using h1,fun i x x' hx hx'=>h2 i x x' (by simpa using hx) (by simpa using hx')⟩ rv) ⟨by simpa using h3,fun i x x' hx hx'=>h4 i x x' (by simpa using hx) (by simpa using hx')⟩
      obtain⟨u,ν,v',hr,g1,rv'⟩:=E.ext g x hx _ h v h' e μ w _ R hargs
      have harr:xs'++az.map (Act.eval ⟨tmps,ds⟩)++ys'=(⟨xs'.toList++az.toList.map (Act.eval ⟨tmps,ds⟩)++ys'.toList⟩:Array Value):=by
       apply Array.ext';simp
      refine wp_of_value (v:=v') (u:=u) ?_ (hn u ν v' g1 rv')
      unfold execOp
      rw[ho]
      simp only[resolve,hfv,Deferred.ofValue,pure_bind,invoke]
      rw[harr];exact hr
    ·simp at e
  ·simp at e
 ·rename_i az ts ho
  split at e
  ·rename_i s x hl
   have rv:=rds_ok (ds:=ds) TR hl
   obtain⟨s',x',hs',rs,rx⟩:∃ s' x',az.toList.map (Act.eval ⟨tmps,ds⟩)=[s',x']∧VRel μ s s'∧VRel μ x x':=by
    rcases rv.cases with⟨h,_⟩|⟨a,a',m,m',h,h',ra,rm⟩
    ·simp at h
    ·simp only[List.cons.injEq] at h;obtain⟨rfl,rfl⟩:=h
     rcases rm.cases with⟨h,_⟩|⟨b,b',n,n',h,h'',rb,rn⟩
     ·simp at h
     ·simp only[List.cons.injEq] at h;obtain⟨rfl,rfl⟩:=h
      rcases rn.cases with⟨_,h3⟩|⟨_,_,_,_,h,_⟩
      ·subst h3;exact⟨a',b',by rw[h',h''],ra,rb⟩
      ·simp at h
   obtain⟨v',u,ν,hr,g,rv'⟩:=append_ok (rt:=o.type) E R rs rx e
   refine wp_of_value ?_ (hn u ν v' g rv')
   unfold execOp
   rw[ho]
   have:az.map (Act.eval ⟨tmps,ds⟩)= #[s',x']:=by apply Array.ext';simpa using hs'
   simp[resolve,invoke,builtin,this,hr]
  ·simp at e
 ·rename_i az ts ho
  split at e
  ·rename_i s x hl
   have rv:=rds_ok (ds:=ds) TR hl
   obtain⟨s',x',hs',rs,rx⟩:∃ s' x',az.toList.map (Act.eval ⟨tmps,ds⟩)=[s',x']∧VRel μ s s'∧VRel μ x x':=by
    rcases rv.cases with⟨h,_⟩|⟨a,a',m,m',h,h',ra,rm⟩
    ·simp at h
    ·simp only[List.cons.injEq] at h;obtain⟨rfl,rfl⟩:=h
     rcases rm.cases with⟨h,_⟩|⟨b,b',n,n',h,h'',rb,rn⟩
     ·simp at h
     ·simp only[List.cons.injEq] at h;obtain⟨rfl,rfl⟩:=h
      rcases rn.cases with⟨_,h3⟩|⟨_,_,_,_,h,_⟩
      ·subst h3;exact⟨a',b',by rw[h',h''],ra,rb⟩
      ·simp at h
   obtain⟨v',u,hr,g,rv'⟩:=copy_ok (P:=P) (rt:=o.type) E R rs rx e
   refine wp_of_value ?_ (hn u μ v' g rv')
   unfold execOp
   rw[ho]
   have:az.map (Act.eval ⟨tmps,ds⟩)= #[s',x']:=by apply Array.ext';simpa using hs'
   simp[resolve,invoke,builtin,this,hr]
  ·simp at e
 ·simp at e
end
end Go.PanE
namespace Go.PanE
def iterA(f:St→Option (Ex×St)):Nat→St→Option (Ex×St)
 |0,_=>none
 |n+1,s=>match f s with
  |some (.normal,s')=>iterA f n s'
  |r=>r
section
variable (env:Env) (call:FuncId→List Value→Heap→Option (Value×Heap)) (nt:Nat) (draw:List Oper→St→Option St) (L:Nat)
/-- A statement. -/
def ecA:Code→St→Option (Ex×St)
 | .skip=>fun s=>some (.normal,s)
 | .label _=>fun s=>some (.normal,s)
 | .region _ ops dr=>fun s=>
  match(bif dr then draw ops.toList s else opsA env call nt ops.toList ops.toList s) with
  |some s'=>some (.normal,s')
  |none=>none
 | .seq a b=>fun s=>match ecA a s with
  |some (.normal,s')=>ecA b s'
  |r=>r
 | .cond c a b=>fun s=>match rd s.tm c with
  |some (.bool t)=>bif t then ecA a s else ecA b s
  |_=>none
 | .block id b=>fun s=>match ecA b s with
  |some (.exit i,s')=>if i=id then some (.normal,s') else some (.exit i,s')
  |r=>r
 | .loop b=>fun s=>iterA (ecA b) L s
 | .exit id=>fun s=>some (.exit id,s)
 | .ret=>fun s=>some (.ret,s)
 |_=>fun _=>none
def resOne(h:Heap)(tm:T Value):ResultVar→Option Value
 | .tmp t=>some (rdT tm t)
 | .cell a t=>match rdT tm a with
  | .pointer (some ad)=>loadV env h t ad
  |_=>none
def resAll(h:Heap)(tm:T Value):List ResultVar→Option (List Value)
 |[]=>some []
 |r::l=>match resOne env h tm r,resAll h tm l with
  |some v,some vs=>some (v::vs)
  |_,_=>none
def resultsA(fn:Func)(s:St):Option Value:=
 match resAll env s.h s.tm fn.results.toList with
 |some [v]=>some v
 |some vs=>some (.tuple ⟨vs⟩)
 |none=>none
/-- Arguments into slots. -/
def mkTm:List Value→Nat→T Value→T Value
 |[],_,tm=>tm
 |v::l,k,tm=>mkTm l (k+1) (tm.put k v)
/-- Does a value name objects below a number alone? -/
def lowV(nx:Nat):Nat→Value→Bool
 |_,.bool _|_,.int _ _|_,.string _|_,.pointer none|_,.slice none _ _|_,.map none|_,.nilFunc|_,.nilIface=>true
 |_,.pointer (some a)=>Nat.blt a.block nx
 |_,.slice (some a) _ _=>Nat.blt a.block nx
 |_,.map (some b)=>Nat.blt b nx
 |d+1,.iface _ v=>lowV nx d v
 |d+1,.agg cs=>cs.toList.all (lowV nx d)
 |d+1,.tuple cs=>cs.toList.all (lowV nx d)
 |_,_=>false
end
/-- A function's body. -/
def bodyA(env:Env)(call:FuncId→List Value→Heap→Option (Value×Heap))(draw:Nat→List Oper→St→Option St)(L:Nat)(fn:Func)(c:Code)(args:List Value)(h:Heap):Option (Value×Heap):=
 match ecA env call fn.ntmps (draw fn.ntmps) L c ⟨mkTm args 0 .nil,{h with wm:=h.nx}⟩ with
 |some (.normal,s)|some (.ret,s)=>match resultsA env fn s with
  |some v=>if Nat.ble h.nx s.h.wm && lowV h.nx 5 v then some (v,h) else some (v,{s.h with wm:=min h.wm s.h.wm})
  |none=>none
 |_=>none
/-- Calls, so deep. -/
def runA(env:Env)(orc:FuncId→Option (List Value→Heap→Option (Value×Heap)))(draw:(FuncId→List Value→Heap→Option (Value×Heap))→Nat→List Oper→St→Option St)(L:Nat):
  Nat→FuncId→List Value→Heap→Option (Value×Heap)
 |0=>fun _ _ _=>none
 |n+1=>fun f args h=>
  match orc f with
  |some g=>g args h
  |none=>match env.fn f with
   |some fn=>match fn.body with
    |some c=>if Nat.ble args.length fn.ntmps then bodyA env (runA env orc draw L n) (draw (runA env orc draw L n)) L fn c args h else none
    |none=>none
   |none=>none
end Go.PanE
namespace Go.PanE
/-- The memory below a number is as it was, but for what was marked as written. -/
theorem Keep.refl(h:Heap):Keep h h:=⟨Nat.le_refl _,Nat.le_refl _,fun _ _ _=>rfl,fun _ _ e=>e⟩
theorem Keep.trans{h g f:Heap}(a:Keep h g)(b:Keep g f):Keep h f:=
 ⟨Nat.le_trans a.nx b.nx,Nat.le_trans b.wm a.wm,fun k h1 h2=>(b.get k (Nat.lt_of_lt_of_le h1 a.nx) h2).trans (a.get k h1 (Nat.lt_of_lt_of_le h2 b.wm)),
  fun k h1 h2=>b.no k (Nat.lt_of_lt_of_le h1 a.nx) (a.no k h1 h2)⟩
theorem wm_min(b m:Nat):(bif Nat.blt b m then b else m)=min b m:=by
 cases e:Nat.blt b m
 ·have:¬ b < m:=by intro hl;rw[← Nat.blt_eq,e] at hl;simp at hl
  simp;omega
 ·rw[Nat.blt_eq] at e
  simp;omega
theorem Keep.alloc(h:Heap)(o:AObj):Keep h (h.alloc o):=
 ⟨Nat.le_succ _,Nat.le_refl _,fun b h1 _=>by rw[Heap.get_alloc,if_neg (by omega)],fun b h1 e=>by rw[Heap.get_alloc,if_neg (by omega)];exact e⟩
theorem Keep.put(h:Heap)(c:Nat)(o:AObj){x:AObj}(hx:h.get c=some x):Keep h (h.put c o):=by
 have hc:=Heap.lt_of_get hx
 refine⟨Nat.le_refl _,?_,fun b h1 h2=>?_,fun b h1 e=>?_⟩
 rotate_right
 ·rw[Heap.get_put _ _ _ _ hc]
  split
  ·rename_i hb;subst hb;rw[hx] at e;simp at e
  ·exact e
 ·show(bif Nat.blt c h.wm then c else h.wm)≤h.wm
  rw[wm_min];omega
 ·have h2':b < min c h.wm:=by rw[← wm_min];exact h2
  rw[Heap.get_put _ _ _ _ hc,if_neg (by omega)]
theorem Keep.kill(h:Heap)(c:Nat):Keep h (h.kill c):=by
 refine⟨Nat.le_refl _,?_,fun b h1 h2=>?_,fun b h1 e=>by rw[Heap.get_kill,e];simp⟩
 ·show(bif Nat.blt c h.wm then c else h.wm)≤h.wm
  rw[wm_min];omega
 ·have h2':b < min c h.wm:=by rw[← wm_min];exact h2
  rw[Heap.get_kill,if_neg (by omega)]
def CallKeep(call:FuncId→List Value→Heap→Option (Value×Heap)):Prop:=∀ f args h v h',call f args h=some (v,h')→Keep h h'
section
variable {P:Program} {env:Env} {μ:Loc} {h:Heap} {w:World} {tm:T Value} {tmps:Array Value} {call:FuncId→List Value→Heap→Option (Value×Heap)}
theorem storeC_keep{a:Addr}{vs:List Value}{h':Heap}(e:storeC h a vs=some h'):Keep h h':=by
 unfold storeC at e
 split at e
 ·rename_i el cells es hg hs
  split at e
  ·simp only[Option.some.injEq] at e;subst e
   exact Keep.put _ _ _ hg
  ·simp at e
 ·simp at e
theorem append_keep{ts:Array TypeId}{s x v:Value}{h':Heap}(e:appendA env h ts s x=some (v,h')):Keep h h':=by
 unfold appendA at e
 split at e
 ·split at e
  ·split at e
   ·split at e
    ·split at e
     ·simp at e
     split at e
     ·split at e
      ·simp only[Option.some.injEq,Prod.mk.injEq] at e;rw[← e.2];exact Keep.refl _
      ·simp at e
     split at e
     ·split at e
      ·split at e
       ·rename_i hst
        simp only[Option.some.injEq,Prod.mk.injEq] at e;rw[← e.2];exact storeC_keep hst
       ·simp at e
      ·simp at e
     split at e
     ·split at e
      ·simp only[Option.some.injEq,Prod.mk.injEq] at e;rw[← e.2];exact Keep.alloc _ _
      ·split at e
       ·simp only[Option.some.injEq,Prod.mk.injEq] at e;rw[← e.2];exact Keep.alloc _ _
       ·split at e
        ·split at e
         ·simp only[Option.some.injEq,Prod.mk.injEq] at e;rw[← e.2];exact(Keep.kill _ _).trans (Keep.alloc _ _)
         ·simp at e
        ·simp at e
       ·simp at e
      ·simp at e
     ·simp at e
    ·simp at e
   ·simp at e
  ·simp at e
 ·simp at e
theorem eff_keep(CK:CallKeep call){op:Op}{v:Value}{h':Heap}(e:opE env call h tm op=some (v,h')):Keep h h':=by
 unfold opE at e
 split at e
 ·split at e
  ·split at e
   ·rename_i hst
    simp only[Option.some.injEq,Prod.mk.injEq] at e;rw[← e.2]
    unfold storeV at hst
    split at hst
    ·split at hst
     ·exact storeC_keep hst
     ·simp at hst
    ·simp at hst
   ·simp at e
  ·simp at e
 ·split at e
  ·split at e
   ·rename_i hg _
    split at e
    ·split at e
     ·simp only[Option.some.injEq,Prod.mk.injEq] at e;rw[← e.2];exact Keep.put _ _ _ hg
     ·simp at e
    ·simp at e
   ·simp at e
  ·simp at e
 ·split at e
  ·split at e
   ·rename_i hg
    split at e
    ·simp only[Option.some.injEq,Prod.mk.injEq] at e;rw[← e.2];exact Keep.put _ _ _ hg
    ·simp only[Option.some.injEq,Prod.mk.injEq] at e;rw[← e.2];exact Keep.refl _
   ·simp at e
  ·simp at e
 ·split at e
  ·split at e
   ·exact CK _ _ _ _ _ e
   ·split at e
    ·rename_i x _
     exact x.keep _ _ _ _ e
    ·simp at e
  ·simp at e
 ·split at e
  ·exact append_keep e
  ·simp at e
 ·split at e
  ·unfold copyA at e
   split at e
   ·split at e
    ·split at e
     ·simp only at e
      split at e
      ·split at e
       ·simp only[Option.some.injEq,Prod.mk.injEq] at e;rw[← e.2];exact Keep.refl _
       ·simp only[Option.some.injEq,Prod.mk.injEq] at e;rw[← e.2];exact Keep.refl _
       ·split at e
        ·rename_i hst
         simp only[Option.some.injEq,Prod.mk.injEq] at e;rw[← e.2];exact storeC_keep hst
        ·simp at e
      ·simp at e
     ·simp at e
    ·simp at e
   ·simp at e
  ·simp at e
 ·simp at e
/-- A slot is set. -/
theorem TRel.put(TR:TRel μ tm tmps){d:Nat}{v v':Value}(r:VRel μ v v')(hd:d < tmps.size):TRel μ (tm.put d v) (tmps.setIfInBounds d v'):=by
 refine⟨TR.1,fun t=>?_⟩
 unfold rdT
 rw[T.get_put]
 by_cases e:t=d
 ·subst e
  rw[if_pos rfl]
  simp[Array.getD,hd]
  exact r
 ·rw[if_neg e]
  have:(tmps.setIfInBounds d v').getD t undef=tmps.getD t undef:=by
   simp only[Array.getD_eq_getD_getElem?,Array.getElem?_setIfInBounds]
   rw[if_neg (fun h=>e h.symm)]
  rw[this]
  exact TR.2 t
theorem putD_ok(TR:TRel μ tm tmps){nt:Nat}{dst:Option Tmp}{v v':Value}{tm':T Value}(r:VRel μ v v')(hn:nt≤tmps.size){ds:List Deferred}(e:putD nt dst v tm=some tm'):
  TRel μ tm' (Act.put ⟨tmps,ds⟩ dst v').tmps∧(Act.put ⟨tmps,ds⟩ dst v').tmps.size=tmps.size∧(Act.put ⟨tmps,ds⟩ dst v').defers=ds:=by
 unfold putD at e
 split at e
 ·simp only[Option.some.injEq] at e;subst e
  exact⟨TR,rfl,rfl⟩
 ·rename_i d
  split at e
  ·rename_i hd
   rw[Nat.blt_eq] at hd
   simp only[Option.some.injEq] at e;subst e
   exact⟨TR.put r (by omega),by simp[Act.put],rfl⟩
  ·simp at e
/-- Which operations are wanted. -/
theorem guard_eq(TR:TRel μ tm tmps)(ops:Array Oper)(j:Nat):guardV ops.toList tm j=yielded ops tmps j:=by
 unfold guardV yielded
 rw[Array.getElem?_toList]
 cases ho:ops[j]? with
 |none=>rfl
 |some o=>
  simp only[Option.bind_some]
  cases hd:o.dst with
  |none=>rfl
  |some d=>
   simp only[Option.bind_some]
   have r:=TR.2 d
   cases ht:tmps[d]? with
   |none=>
    rw[Array.getD_eq_getD_getElem?,ht] at r
    simp only[Option.getD_none] at r
    generalize rdT tm d=x at r
    cases r
    rfl
   |some y=>
    rw[Array.getD_eq_getD_getElem?,ht] at r
    simp only[Option.getD_some] at r
    generalize rdT tm d=x at r
    cases r <;>rfl
theorem wanted_eq(TR:TRel μ tm tmps)(ops:Array Oper)(o:Oper):wantedA ops.toList tm o=Region.wanted o (yielded ops tmps):=by
 unfold wantedA Region.wanted
 cases o.guard with
 |none=>rfl
 |some g=>
  obtain⟨j,want⟩:=g
  simp only
  rw[guard_eq TR]
  cases yielded ops tmps j with
  |none=>simp
  |some b=>simp
theorem act_eta{a:Act}(h:a.defers=[]):a=⟨a.tmps,[]⟩:=by
 cases a;simp at h;subst h;rfl
/-- One operation. -/
theorem op1_ok(E:EnvOK P env)(C:CallOK P call){nt:Nat}{s s':St}{o:Oper}(e:op1 env call nt s o=some s')(R:Rep μ s.h w)(TR:TRel μ s.tm tmps)(hn:nt≤tmps.size)
  {next:Act→World→Prop} {Q:Exit→Act→World→Prop} (hk:∀ u ν tmps',Go1 μ s.h w ν s'.h u→TRel ν s'.tm tmps'→tmps'.size=tmps.size→next ⟨tmps',[]⟩ u):o.wp P ⟨tmps,[]⟩ w next Q:=by
 unfold op1 at e
 split at e
 ·rename_i v hq
  split at e
  ·rename_i tm' hp
   simp only[Option.some.injEq] at e;subst e
   obtain⟨v',hr,rv⟩:=quiet_ok (ds:=[]) E R TR hq
   obtain⟨t1,t2,t3⟩:=putD_ok TR rv hn (ds:=[]) hp
   refine wp_of_value hr ?_
   have:=hk w μ _ (Go1.refl R) t1 t2
   have e2:(Act.put ⟨tmps,[]⟩ o.dst v')=⟨(Act.put ⟨tmps,[]⟩ o.dst v').tmps,[]⟩:=act_eta t3
   rw[e2];exact this
  ·simp at e
 ·split at e
  ·rename_i mk obj ha
   split at e
   ·rename_i tm' hp
    simp only[Option.some.injEq] at e;subst e
    obtain⟨v',u,p,hr,hno⟩:=alloc_ok (w:=w) (ds:=[]) E TR ha
    obtain⟨g,rv⟩:=hno.go R
    obtain⟨t1,t2,t3⟩:=putD_ok (TR.mono g.ext) rv hn (ds:=[]) hp
    refine wp_of_value hr ?_
    have:=hk u _ _ g t1 t2
    have e2:(Act.put ⟨tmps,[]⟩ o.dst v')=⟨(Act.put ⟨tmps,[]⟩ o.dst v').tmps,[]⟩:=act_eta t3
    rw[e2];exact this
   ·simp at e
  ·split at e
   ·rename_i v h' he
    split at e
    ·rename_i tm' hp
     simp only[Option.some.injEq] at e;subst e
     refine eff_ok E R TR C (ds:=[]) he (fun u ν v' g rv=>?_)
     obtain⟨t1,t2,t3⟩:=putD_ok (TR.mono g.ext) rv hn (ds:=[]) hp
     have:=hk u ν _ g t1 t2
     have e2:(Act.put ⟨tmps,[]⟩ o.dst v')=⟨(Act.put ⟨tmps,[]⟩ o.dst v').tmps,[]⟩:=act_eta t3
     rw[e2];exact this
    ·simp at e
   ·simp at e
/-- A region in its order. -/
theorem ops_ok(E:EnvOK P env)(C:CallOK P call){nt:Nat}{ops:Array Oper}{Q:Exit→Act→World→Prop}:∀ (l:List Oper) (k:Nat),ops.toList.drop k=l→∀ (s s':St) (μ:Loc) (w:World) (tmps:Array Value),
  opsA env call nt ops.toList l s=some s'→Rep μ s.h w→TRel μ s.tm tmps→nt≤tmps.size→
  (∀ u ν tmps',Go1 μ s.h w ν s'.h u→TRel ν s'.tm tmps'→tmps'.size=tmps.size→Q .normal ⟨tmps',[]⟩ u)→wpOps P ops Q (List.range' k l.length) ⟨tmps,[]⟩ w:=by
 intro l
 induction l with
 |nil=>
  intro k hd s s' μ w tmps e R TR hn hk
  simp only[opsA,Option.some.injEq] at e;subst e
  exact hk w μ tmps (Go1.refl R) TR rfl
 |cons o l ih=>
  intro k hd s s' μ w tmps e R TR hn hk
  have ho:ops[k]? =some o:=by
   have:=congrArg (fun l=>l[0]?) hd
   simpa using this
  have hd':ops.toList.drop (k+1)=l:=by
   have:=congrArg List.tail hd
   simpa using this
  simp only[List.length_cons,List.range'_succ,wpOps,ho]
  simp only[opsA] at e
  rw[wanted_eq TR] at e
  split at e
  ·rename_i hw
   rw[if_pos hw]
   split at e
   ·rename_i s1 h1
    left
    refine op1_ok E C h1 R TR hn (fun u ν tmps' g t hs=>?_)
    exact ih (k+1) hd' s1 s' ν u tmps' e g.rep t (by omega) (fun u2 ν2 tmps2 g2 t2 hs2=>hk u2 ν2 tmps2 (g.trans g2) t2 (by omega))
   ·simp at e
  ·rename_i hw
   rw[if_neg hw]
   split at e
   ·rename_i tm' hp
    obtain⟨t1,t2,t3⟩:=putD_ok TR VRel.undef hn (ds:=[]) hp
    have e2:(Act.put ⟨tmps,[]⟩ o.dst undef)=⟨(Act.put ⟨tmps,[]⟩ o.dst undef).tmps,[]⟩:=act_eta t3
    rw[e2]
    exact ih (k+1) hd' ⟨tm',s.h⟩ s' μ w _ e R t1 (by omega) (fun u2 ν2 tmps2 g2 tt hs2=>hk u2 ν2 tmps2 g2 tt (by omega))
   ·simp at e
end
end Go.PanE
namespace Go.PanE
def exOf:Ex→Exit
 | .normal=>.normal
 | .exit i=>.exit i
 | .ret=>.ret
abbrev CallT:=FuncId→List Value→Heap→Option (Value×Heap)
abbrev DrawT:=CallT→Nat→List Oper→St→Option St
def DrawOK(P:Program)(draw:DrawT):Prop:=
 ∀ call,CallOK P call→CallKeep call→∀ nt id (ops:Array Oper) s s',draw call nt ops.toList s=some s'→∀ (μ:Loc) (w:World) (tmps:Array Value),Rep μ s.h w→TRel μ s.tm tmps→nt≤tmps.size→
  ∀ Q:Exit→Act→World→Prop,(∀ u ν tmps',Go1 μ s.h w ν s'.h u→TRel ν s'.tm tmps'→tmps'.size=tmps.size→Q .normal ⟨tmps',[]⟩ u)→(Code.region id ops true).wp P Q ⟨tmps,[]⟩ w
def DrawKeep(draw:DrawT):Prop:=∀ call,CallKeep call→∀ nt ops s s',draw call nt ops s=some s'→Keep s.h s'.h
section
variable {P:Program} {env:Env} {call:CallT} {draw:DrawT}
/-- What is shown of a statement. -/
def CodeOK(P:Program)(nt:Nat)(c:Code)(f:St→Option (Ex×St)):Prop:=
 ∀ (s:St) (x:Ex) (s':St),f s=some (x,s')→∀ (μ:Loc) (w:World) (tmps:Array Value),Rep μ s.h w→TRel μ s.tm tmps→nt≤tmps.size→
  ∀ Q:Exit→Act→World→Prop,(∀ u ν tmps',Go1 μ s.h w ν s'.h u→TRel ν s'.tm tmps'→tmps'.size=tmps.size→Q (exOf x) ⟨tmps',[]⟩ u)→c.wp P Q ⟨tmps,[]⟩ w
theorem iter_ok{nt:Nat}{c:Code}{f:St→Option (Ex×St)}(hf:CodeOK P nt c f):∀ (n:Nat) (s:St) (x:Ex) (s':St),iterA f n s=some (x,s')→∀ (μ:Loc) (w:World) (tmps:Array Value),Rep μ s.h w→TRel μ s.tm tmps→nt≤tmps.size→
  ∀ Q:Exit→Act→World→Prop,(∀ u ν tmps',Go1 μ s.h w ν s'.h u→TRel ν s'.tm tmps'→tmps'.size=tmps.size→Q (exOf x) ⟨tmps',[]⟩ u)→Code.rounds P c Q n ⟨tmps,[]⟩ w:=by
 intro n
 induction n with
 |zero=>intro s x s' e;simp[iterA] at e
 |succ n ih=>
  intro s x s' e μ w tmps R TR hn Q hQ
  rw[rounds_succ]
  simp only[iterA] at e
  split at e
  ·rename_i s1 h1
   refine hf s .normal s1 h1 μ w tmps R TR hn _ (fun u ν tmps' g t hs=>?_)
   exact ih s1 x s' e ν u tmps' g.rep t (by omega) Q (fun u2 ν2 tmps2 g2 t2 hs2=>hQ u2 ν2 tmps2 (g.trans g2) t2 (by omega))
  ·rename_i hne
   refine hf s x s' e μ w tmps R TR hn _ (fun u ν tmps' g t hs=>?_)
   have:=hQ u ν tmps' g t hs
   cases x with
   |normal=>exact absurd e (hne s')
   |exit i=>exact this
   |ret=>exact this
theorem code_ok(E:EnvOK P env)(C:CallOK P call)(CK:CallKeep call)(D:DrawOK P draw)(nt L:Nat):∀ c:Code,CodeOK P nt c (ecA env call nt (draw call nt) L c):=by
 intro c
 induction c with
 |skip=>
  intro s x s' e μ w tmps R TR hn Q hQ
  simp only[ecA,Option.some.injEq,Prod.mk.injEq] at e;obtain⟨rfl,rfl⟩:=e
  exact wp_skip (hQ w μ tmps (Go1.refl R) TR rfl)
 |label l=>
  intro s x s' e μ w tmps R TR hn Q hQ
  simp only[ecA,Option.some.injEq,Prod.mk.injEq] at e;obtain⟨rfl,rfl⟩:=e
  exact wp_label (hQ w μ tmps (Go1.refl R) TR rfl)
 |region id ops dr=>
  intro s x s' e μ w tmps R TR hn Q hQ
  simp only[ecA] at e
  cases dr with
  |true=>
   simp only[cond_true] at e
   split at e
   ·rename_i s1 h1
    simp only[Option.some.injEq,Prod.mk.injEq] at e;obtain⟨rfl,rfl⟩:=e
    exact D call C CK nt id ops s s1 h1 μ w tmps R TR hn Q hQ
   ·simp at e
  |false=>
   simp only[cond_false] at e
   split at e
   ·rename_i s1 h1
    simp only[Option.some.injEq,Prod.mk.injEq] at e;obtain⟨rfl,rfl⟩:=e
    refine wp_region ?_
    rw[List.range_eq_range']
    have:=ops_ok E C (Q:=Q) ops.toList 0 rfl s s1 μ w tmps h1 R TR hn hQ
    simpa using this
   ·simp at e
 |seq a b iha ihb=>
  intro s x s' e μ w tmps R TR hn Q hQ
  simp only[ecA] at e
  refine wp_seq ?_
  split at e
  ·rename_i s1 h1
   refine iha s .normal s1 h1 μ w tmps R TR hn _ (fun u ν tmps' g t hs=>?_)
   exact ihb s1 x s' e ν u tmps' g.rep t (by omega) Q (fun u2 ν2 tmps2 g2 t2 hs2=>hQ u2 ν2 tmps2 (g.trans g2) t2 (by omega))
  ·rename_i hne
   refine iha s x s' e μ w tmps R TR hn _ (fun u ν tmps' g t hs=>?_)
   have:=hQ u ν tmps' g t hs
   cases x with
   |normal=>exact absurd e (hne s')
   |exit i=>exact this
   |ret=>exact this
 |cond c a b iha ihb=>
  intro s x s' e μ w tmps R TR hn Q hQ
  simp only[ecA] at e
  split at e
  ·rename_i t ht
   have rc:=rd_ok (ds:=[]) TR ht
   have hc:Act.eval ⟨tmps,[]⟩ c= .bool t:=by
    generalize Act.eval ⟨tmps,[]⟩ c=v at rc
    cases rc;rfl
   cases t with
   |true=>exact wp_cond_true hc (iha s x s' e μ w tmps R TR hn Q hQ)
   |false=>exact wp_cond_false hc (ihb s x s' e μ w tmps R TR hn Q hQ)
  ·simp at e
 |block id b ih=>
  intro s x s' e μ w tmps R TR hn Q hQ
  simp only[ecA] at e
  refine wp_block ?_
  split at e
  ·rename_i i s1 h1
   split at e
   ·rename_i hi
    simp only[Option.some.injEq,Prod.mk.injEq] at e;obtain⟨rfl,rfl⟩:=e
    refine ih s (.exit i) s1 h1 μ w tmps R TR hn _ (fun u ν tmps' g t hs=>?_)
    simp only[exOf,Exit.inBlock,hi,if_true]
    exact hQ u ν tmps' g t hs
   ·rename_i hi
    simp only[Option.some.injEq,Prod.mk.injEq] at e;obtain⟨rfl,rfl⟩:=e
    refine ih s (.exit i) s1 h1 μ w tmps R TR hn _ (fun u ν tmps' g t hs=>?_)
    simp only[exOf,Exit.inBlock,hi,if_false]
    exact hQ u ν tmps' g t hs
  ·rename_i hne
   refine ih s x s' e μ w tmps R TR hn _ (fun u ν tmps' g t hs=>?_)
   have:=hQ u ν tmps' g t hs
   cases x with
   |normal=>exact this
   |exit i=>exact absurd e (hne i s')
   |ret=>exact this
 |loop b ih=>
  intro s x s' e μ w tmps R TR hn Q hQ
  exact wp_loop_rounds L (iter_ok ih L s x s' e μ w tmps R TR hn Q hQ)
 |exit id=>
  intro s x s' e μ w tmps R TR hn Q hQ
  simp only[ecA,Option.some.injEq,Prod.mk.injEq] at e;obtain⟨rfl,rfl⟩:=e
  exact wp_exit (hQ w μ tmps (Go1.refl R) TR rfl)
 |ret=>
  intro s x s' e μ w tmps R TR hn Q hQ
  simp only[ecA,Option.some.injEq,Prod.mk.injEq] at e;obtain⟨rfl,rfl⟩:=e
  exact wp_ret (hQ w μ tmps (Go1.refl R) TR rfl)
 |_=>
  intro s x s' e
  simp[ecA] at e
/-! The memory's numbers. -/
theorem op1_keep(CK:CallKeep call){nt:Nat}{s s':St}{o:Oper}(e:op1 env call nt s o=some s'):Keep s.h s'.h:=by
 unfold op1 at e
 split at e
 ·split at e
  ·simp only[Option.some.injEq] at e;subst e;exact Keep.refl _
  ·simp at e
 ·split at e
  ·split at e
   ·simp only[Option.some.injEq] at e;subst e;exact Keep.alloc _ _
   ·simp at e
  ·split at e
   ·rename_i he
    split at e
    ·simp only[Option.some.injEq] at e;subst e;exact eff_keep CK he
    ·simp at e
   ·simp at e
theorem ops_keep(CK:CallKeep call){nt:Nat}{ops:List Oper}:∀ (l:List Oper) (s s':St),opsA env call nt ops l s=some s'→Keep s.h s'.h:=by
 intro l
 induction l with
 |nil=>intro s s' e;simp only[opsA,Option.some.injEq] at e;subst e;exact Keep.refl _
 |cons o l ih=>
  intro s s' e
  simp only[opsA] at e
  split at e
  ·split at e
   ·rename_i h1
    exact(op1_keep CK h1).trans (ih _ _ e)
   ·simp at e
  ·split at e
   ·rename_i tm' _;exact ih ⟨tm',s.h⟩ s' e
   ·simp at e
theorem iter_keep{f:St→Option (Ex×St)}(hf:∀ s x s',f s=some (x,s')→Keep s.h s'.h):∀ n s x s',iterA f n s=some (x,s')→Keep s.h s'.h:=by
 intro n
 induction n with
 |zero=>intro s x s' e;simp[iterA] at e
 |succ n ih=>
  intro s x s' e
  simp only[iterA] at e
  split at e
  ·rename_i s1 h1;exact(hf _ _ _ h1).trans (ih _ _ _ e)
  ·exact hf _ _ _ e
theorem code_keep(CK:CallKeep call)(DK:DrawKeep draw)(nt L:Nat):∀ (c:Code) s x s',ecA env call nt (draw call nt) L c s=some (x,s')→Keep s.h s'.h:=by
 intro c
 induction c with
 |region id ops dr=>
  intro s x s' e
  simp only[ecA] at e
  split at e
  ·rename_i s1 h1
   simp only[Option.some.injEq,Prod.mk.injEq] at e;obtain⟨rfl,rfl⟩:=e
   cases dr with
   |true=>exact DK call CK _ _ _ _ h1
   |false=>exact ops_keep CK _ _ _ h1
  ·simp at e
 |seq a b iha ihb=>
  intro s x s' e
  simp only[ecA] at e
  split at e
  ·rename_i s1 h1;exact(iha _ _ _ h1).trans (ihb _ _ _ e)
  ·exact iha _ _ _ e
 |cond c a b iha ihb=>
  intro s x s' e
  simp only[ecA] at e
  split at e
  ·rename_i t ht
   cases t with
   |true=>exact iha _ _ _ e
   |false=>exact ihb _ _ _ e
  ·simp at e
 |block id b ih=>
  intro s x s' e
  simp only[ecA] at e
  split at e
  ·rename_i h1
   split at e <;>(simp only[Option.some.injEq,Prod.mk.injEq] at e;obtain⟨_,rfl⟩:=e;exact ih _ _ _ h1)
  ·exact ih _ _ _ e
 |loop b ih=>intro s x s' e;exact iter_keep ih L s x s' e
 |skip=>intro s x s' e;simp only[ecA,Option.some.injEq,Prod.mk.injEq] at e;obtain⟨_,rfl⟩:=e;exact Keep.refl _
 |label l=>intro s x s' e;simp only[ecA,Option.some.injEq,Prod.mk.injEq] at e;obtain⟨_,rfl⟩:=e;exact Keep.refl _
 |exit l=>intro s x s' e;simp only[ecA,Option.some.injEq,Prod.mk.injEq] at e;obtain⟨_,rfl⟩:=e;exact Keep.refl _
 |ret=>intro s x s' e;simp only[ecA,Option.some.injEq,Prod.mk.injEq] at e;obtain⟨_,rfl⟩:=e;exact Keep.refl _
 |_=>intro s x s' e;simp[ecA] at e
end
end Go.PanE
