/-
 Part 4 of the proof of Rows.DumpLinesCardSaid. Under the conditions that its statements name (EnvOK and the like).
-/
import Derived.Test.YtihkphfmnnndfaaGreatDoorT03
namespace Go.PanE
section
variable {P:Program} {env:Env} {μ:Loc} {h:Heap} {w:World} {tm:T Value} {tmps:Array Value}
theorem zn5:∀ (l l':Vs) (k:IntKind) (x:Int) (v:Value),zh μ l l'→jS (fun y x=>decide (y < x)) (.int k x) l=some v→
  (l'.foldlM Builtin.min2 (.int k x)).run P w= .ok v w∧VRel μ v v:=by
 intro l
 induction l with
 |nil=>
  intro l' k x v r e
  rcases r.cases with⟨_,rfl⟩|⟨_,_,_,_,h,_⟩
  ·simp only[jS,sJ] at e;subst e;exact⟨by simp,.int _ _⟩
  ·simp at h
 |cons y l ih=>
  intro l' k x v r e
  rcases r.cases with⟨h,_⟩|⟨y1,y',m,m',h,rfl,ry,rm⟩
  ·simp at h
  ·simp only[List.cons.injEq] at h;obtain⟨rfl,rfl⟩:=h
   unfold jS at e
   split at e
   ·rename_i h1 h2;simp at h2
   ·rename_i k1 x1 k2 y2 l2 h1 h2
    simp only[List.cons.injEq] at h2;obtain⟨rfl,rfl⟩:=h2
    simp only[Value.int.injEq] at h1;obtain⟨rfl,rfl⟩:=h1
    cases ry
    have:=ih m' k _ v rm e
    simp only[List.foldlM_cons,Sem.run_bind,Builtin.min2,Sem.run_pure,Result.andThen_ok]
    by_cases hlt:y2 < x
    ·simp only[hlt,decide_true,if_true] at this ⊢;exact this
    ·simp only[hlt,decide_false,Bool.false_eq_true,if_false] at this ⊢;exact this
   ·simp at e
theorem zn6:∀ (l l':Vs) (k:IntKind) (x:Int) (v:Value),zh μ l l'→jS (fun y x=>decide (y>x)) (.int k x) l=some v→
  (l'.foldlM Builtin.max2 (.int k x)).run P w= .ok v w∧VRel μ v v:=by
 intro l
 induction l with
 |nil=>
  intro l' k x v r e
  rcases r.cases with⟨_,rfl⟩|⟨_,_,_,_,h,_⟩
  ·simp only[jS,sJ] at e;subst e;exact⟨by simp,.int _ _⟩
  ·simp at h
 |cons y l ih=>
  intro l' k x v r e
  rcases r.cases with⟨h,_⟩|⟨y1,y',m,m',h,rfl,ry,rm⟩
  ·simp at h
  ·simp only[List.cons.injEq] at h;obtain⟨rfl,rfl⟩:=h
   unfold jS at e
   split at e
   ·rename_i h1 h2;simp at h2
   ·rename_i k1 x1 k2 y2 l2 h1 h2
    simp only[List.cons.injEq] at h2;obtain⟨rfl,rfl⟩:=h2
    simp only[Value.int.injEq] at h1;obtain⟨rfl,rfl⟩:=h1
    cases ry
    have:=ih m' k _ v rm e
    simp only[List.foldlM_cons,Sem.run_bind,Builtin.max2,Sem.run_pure,Result.andThen_ok]
    by_cases hlt:y2>x
    ·simp only[hlt,decide_true,if_true] at this ⊢;exact this
    ·simp only[hlt,decide_false,Bool.false_eq_true,if_false] at this ⊢;exact this
   ·simp at e
theorem zgO{less:Int→Int→Bool}{x v:Value}{l:Vs}(e:jS less x l=some v):∃ k n,x= .int k n:=by
 unfold jS at e
 split at e
 ·exact⟨_,_,rfl⟩
 ·exact⟨_,_,rfl⟩
 ·simp at e
theorem zuP(E:EnvOK P env)(R:Rep μ h w){ts:Array TypeId}{t rt:TypeId}{x x' v:Value}{rest:Vs}(ht:ts[0]? =some t)(hx:VRel μ x x')(e:zpb env h t x=some v):
  ∃ v',(Builtin.cap_ ts rt ⟨x'::rest⟩).run P w= .ok v' w∧VRel μ v v':=by
 unfold zpb at e
 split at e
 ·rename_i el l n hu
  simp only[sJ] at e;subst e
  cases hx
  exact⟨goInt (0:Nat),by simp[Builtin.cap_,ht,E.runUnd hu],.int _ _⟩
 ·rename_i el b o l n hu
  split at e
  ·rename_i hf
   simp only[sJ] at e;subst e
   cases hx with
   |slice _ _ _ _ c' p hp hc=>
    have hs:∃ s,env.size el=some s:=by
     unfold jy at hf
     split at hf
     ·rename_i hs;exact⟨_,hs⟩
     ·simp at hf
    obtain⟨s,hs⟩:=hs
    have:=(yd E R hp hc hs hf).1 rfl
    subst this
    exact⟨goInt c',by simp[Builtin.cap_,ht,E.runUnd hu],.int _ _⟩
  ·simp at e
 ·simp at e
theorem zhw:∀ {cs cs':Vs} {l:List Int},zh μ cs cs'→keyNums cs=some l→cs'=cs:=by
 intro cs
 induction cs with
 |nil=>
  intro cs' l r e
  rcases r.cases with⟨_,rfl⟩|⟨_,_,_,_,h,_⟩
  ·rfl
  ·simp at h
 |cons x cs ih=>
  intro cs' l r e
  rcases r.cases with⟨h,_⟩|⟨x1,x',m,m',h,rfl,rx,rm⟩
  ·simp at h
  ·simp only[List.cons.injEq] at h;obtain⟨rfl,rfl⟩:=h
   unfold keyNums at e
   split at e
   ·rename_i h1;simp at h1
   ·rename_i n l2 h1
    simp only[List.cons.injEq] at h1;obtain⟨rfl,rfl⟩:=h1
    split at e
    ·rename_i r2 hr
     cases rx
     rw[ih rm hr]
    ·simp at e
   ·simp at e
theorem uN{x x':Value}{l:List Int}(r:VRel μ x x')(e:qA x=some l):x'=x:=by
 unfold qA at e
 split at e
 ·rename_i cs
  cases r with
  |agg _ xs' h1 h2=>
   have:=zhw (zh.agg.1 (.agg _ _ h1 h2)) e
   congr 1
   apply Array.ext'
   exact this
 ·simp at e
theorem zhx:∀ {cs cs':Vs} {l:List Int},keyNums cs=some l→keyNums cs'=some l→cs=cs':=by
 intro cs
 induction cs with
 |nil=>
  intro cs' l e e'
  simp only[keyNums,sJ] at e;subst e
  unfold keyNums at e'
  split at e'
  ·rfl
  ·split at e' <;>simp at e'
  ·simp at e'
 |cons x cs ih=>
  intro cs' l e e'
  unfold keyNums at e
  split at e
  ·rename_i h1;simp at h1
  ·rename_i n l2 h1
   simp only[List.cons.injEq] at h1;obtain⟨rfl,rfl⟩:=h1
   split at e
   ·rename_i r2 hr
    simp only[sJ] at e;subst e
    unfold keyNums at e'
    split at e'
    ·simp at e'
    ·rename_i n' l3
     split at e'
     ·rename_i r3 hr3
      simp only[sJ,List.cons.injEq] at e'
      obtain⟨rfl,rfl⟩:=e'
      rw[ih hr hr3]
     ·simp at e'
    ·simp at e'
   ·simp at e
  ·simp at e
theorem zog{x y:Value}{l:List Int}(e:qA x=some l)(e':qA y=some l):x=y:=by
 unfold qA at e e'
 split at e
 ·split at e'
  ·congr 1
   apply Array.ext'
   exact zhx e e'
  ·simp at e'
 ·simp at e
theorem zj1{kt:TypeId}{k:List Int}:∀ {es:List (Value×Value)} {r:Option Value},findA env kt k es=some r→
  (∀ e,e∈es→env.key kt e.1=true∧∃ a,qA e.1=some a)∧
  match r with
  |none=>∀ e,e∈es→qA e.1≠some k
  |some v=>∃ (i:Nat) (e:Value×Value),es[i]? =some e∧e.2=v∧qA e.1=some k∧∀ (j:Nat) e',es[j]? =some e'→qA e'.1=some k→j=i:=by
 intro es
 induction es with
 |nil=>
  intro r e
  simp only[findA,sJ] at e;subst e
  exact⟨fun e h=>by simp at h,fun e h=>by simp at h⟩
 |cons x es ih=>
  intro r e
  unfold findA at e
  split at e
  ·rename_i hk
   split at e
   ·rename_i a r1 ha hr
    obtain⟨h1,h2⟩:=ih hr
    have hall:∀ e,e∈x::es→env.key kt e.1=true∧∃ a,qA e.1=some a:=by
     intro y hy
     rcases List.mem_cons.1 hy with rfl|hy
     ·exact⟨hk,a,ha⟩
     ·exact h1 y hy
    refine⟨hall,?_⟩
    split at e
    ·rename_i hak
     subst hak
     cases r1 with
     |some v1=>simp at e
     |none=>
      simp only[sJ] at e;subst e
      refine⟨0,x,rfl,rfl,ha,fun j e' hj hk'=>?_⟩
      cases j with
      |zero=>rfl
      |succ j=>exact absurd hk' (h2 e' (List.mem_of_getElem? (by simpa using hj)))
    ·rename_i hak
     simp only[sJ] at e;subst e
     cases r1 with
     |none=>
      intro y hy
      rcases List.mem_cons.1 hy with rfl|hy
      ·rw[ha];simpa using hak
      ·exact h2 y hy
     |some v1=>
      obtain⟨i,e,h3,h4,h6,h5⟩:=h2
      refine⟨i+1,e,by simpa using h3,h4,h6,fun j e' hj hk'=>?_⟩
      cases j with
      |zero=>
       simp only[List.getElem?_cons_zero,sJ] at hj;subst hj
       rw[ha] at hk'
       simp only[sJ] at hk';exact absurd hk' hak
      |succ j=>rw[h5 j e' (by simpa using hj) hk']
   ·simp at e
  ·simp at e
theorem zg9{es:List (Value×Value)}{arr:Array MapEntry}(hs:arr.size=es.length)
  (hr:∀ (i:Nat) e kv,arr[i]? =some e→es[i]? =some kv→VRel μ kv.1 e.key∧VRel μ kv.2 e.val) {i:Nat} {e:MapEntry} (hi:arr[i]? =some e):∃ kv,es[i]? =some kv∧VRel μ kv.1 e.key∧VRel μ kv.2 e.val:=by
 have hlt:i < es.length:=by
  rw[← hs]
  exact(Array.getElem?_eq_some_iff.1 hi).1
 exact⟨es[i],List.getElem?_eq_getElem hlt,hr i e _ hi (List.getElem?_eq_getElem hlt)⟩
theorem zeV(E:EnvOK P env){kt:TypeId}{kn:List Int}{k k':Value}{es:List (Value×Value)}{arr:Array MapEntry}{r:Option Value}(hk:env.key kt k=true)(hkn:qA k=some kn)(rk:VRel μ k k')(hs:arr.size=es.length)
  (hr:∀ (i:Nat) e kv,arr[i]? =some e→es[i]? =some kv→VRel μ kv.1 e.key∧VRel μ kv.2 e.val) (e:findA env kt kn es=some r):
  k'=k∧(Instr.checkKey arr.isEmpty 10000 kt k').run P w= .ok () w∧(Instr.checkKey false 10000 kt k').run P w= .ok () w∧
  match r with
  |none=>(Instr.findKey kt k' arr.toList).run P w= .ok none w
  |some v=>∃ i v',(Instr.findKey kt k' arr.toList).run P w= .ok (some (i,v')) w∧VRel μ v v':=by
 have ek:=uN rk hkn
 subst ek
 obtain⟨K,lx,hx⟩:=E.key _ _ hk
 obtain⟨h1,h2⟩:=zj1 e
 have hall:∀ y∈arr.toList,∃ l,keyOf P kt y.key=some l:=by
  intro y hy
  obtain⟨i,hi⟩:=List.getElem?_of_mem hy
  rw[Array.getElem?_toList] at hi
  obtain⟨kv,hkv,r1,_⟩:=zg9 hs hr hi
  obtain⟨q1,a,q2⟩:=h1 kv (List.mem_of_getElem? hkv)
  rw[uN r1 q2]
  exact(E.key _ _ q1).2
 refine⟨rfl,K.check w _ hx,K.check w _ hx,?_⟩
 rcases K.find w hx arr.toList hall with⟨f1,f2⟩|⟨j,e0,f1,f2,f3⟩
 ·cases r with
  |none=>exact f1
  |some v=>
   obtain⟨i,e1,g1,g2,g4,g3⟩:=h2
   have hlt:i < arr.size:=by
    rw[hs]
    exact(List.getElem?_eq_some_iff.1 g1).1
   have hi:arr[i]? =some arr[i]:=Array.getElem?_eq_getElem hlt
   obtain⟨r1,_⟩:=hr i _ _ hi g1
   have e2:arr[i].key=k':=(uN r1 g4).trans (zog g4 hkn)
   exact absurd e2 (f2 _ (List.mem_of_getElem? (by rw[Array.getElem?_toList];exact hi)))
 ·rw[Array.getElem?_toList] at f2
  obtain⟨kv,hkv,r1,r2⟩:=zg9 hs hr f2
  have hkk:qA kv.1=some kn:=by
   obtain⟨q1,a,q2⟩:=h1 kv (List.mem_of_getElem? hkv)
   have:=uN r1 q2
   rw[← this,f3,hkn]
  cases r with
  |none=>exact absurd hkk (h2 kv (List.mem_of_getElem? hkv))
  |some v=>
   obtain⟨i,e1,g1,g2,g4,g3⟩:=h2
   have:=g3 j kv hkv hkk
   subst this
   rw[g1] at hkv
   simp only[sJ] at hkv;subst hkv
   exact⟨j,e0.val,f1,g2▸r2⟩
theorem zlD(E:EnvOK P env)(R:Rep μ h w){t:TypeId}{x x' k k' v:Value}{ok:Bool}(rx:VRel μ x x')(rk:VRel μ k k')(e:zeR env h t x k ok=some v):
  ∃ v',(Instr.lookup t x' k' ok).run P w= .ok v' w∧VRel μ v v':=by
 unfold zeR at e
 split at e
 ·rename_i kt el b hu
  split at e
  ·rename_i es kn z hg hk hkn hz
   cases rx with
   |map _ p hp=>
    obtain⟨p',hp',ho⟩:=R.live _ _ hg
    rw[hp] at hp'
    simp only[sJ] at hp';subst hp'
    obtain⟨arr,clock,hw,hs,hr,_⟩:=ho
    have zr:=(E.zero el z hz).2 μ
    have hgo:(getObj p.pb).run P w= .ok (.map arr clock) w:=by simp[getObj,Sem.run,hw]
    split at e
    ·rename_i v1 hf
     obtain⟨rfl,c1,_,i,v',f1,r1⟩:=zeV (w:=w) E hk hkn rk hs hr hf
     simp only[sJ] at e;subst e
     cases ok with
     |true=>exact⟨.tuple #[v',.bool true],by simp[Instr.lookup,E.runUnd hu,hgo,c1,f1],zh.tuple.2 (.cons r1 (.cons (.bool _) .nil))⟩
     |false=>exact⟨v',by simp[Instr.lookup,E.runUnd hu,hgo,c1,f1],r1⟩
    ·rename_i hf
     obtain⟨rfl,c1,_,f1⟩:=zeV (w:=w) E hk hkn rk hs hr hf
     simp only[sJ] at e;subst e
     cases ok with
     |true=>exact⟨.tuple #[z,.bool false],by simp[Instr.lookup,E.runUnd hu,hgo,c1,f1,E.runZero hz],zh.tuple.2 (.cons zr (.cons (.bool _) .nil))⟩
     |false=>exact⟨z,by simp[Instr.lookup,E.runUnd hu,hgo,c1,f1,E.runZero hz],zr⟩
    ·simp at e
  ·simp at e
 ·simp at e
theorem zrc(E:EnvOK P env)(R:Rep μ h w){ts:Array TypeId}{t rt:TypeId}{x x' v:Value}{rest:Vs}(ht:ts[0]? =some t)(hx:VRel μ x x')(e:lenM env h t x=some v):
  ∃ v',(Builtin.len_ ts rt ⟨x'::rest⟩).run P w= .ok v' w∧VRel μ v v':=by
 unfold lenM at e
 split at e
 ·rename_i kt el b hu
  split at e
  ·rename_i es hg
   simp only[sJ] at e;subst e
   cases hx with
   |map _ p hp=>
    obtain⟨p',hp',ho⟩:=R.live _ _ hg
    rw[hp] at hp'
    simp only[sJ] at hp';subst hp'
    obtain⟨arr,clock,hw,hs,_⟩:=ho
    have hgo:(getObj p.pb).run P w= .ok (.map arr clock) w:=by simp[getObj,Sem.run,hw]
    exact⟨goInt arr.size,by simp[Builtin.len_,ht,E.runUnd hu,hgo],by rw[hs];exact .int _ _⟩
  ·simp at e
 ·simp at e
theorem zgA(E:EnvOK P env)(R:Rep μ h w)(TR:wi μ tm tmps){ds:List Deferred}{o:Oper}{v:Value}(e:opQ env h tm o.op=some v):
  ∃ v',(execOp (Act.eval ⟨tmps,ds⟩) o).run P w= .ok (.value v') w∧VRel μ v v':=by
 have fin:∀ {s:Sem Value} {v':Value},s.run P w= .ok v' w→(do pure (.value (← s)):Sem Next).run P w= .ok (.value v') w:=by
  intro s v' hs
  simp[hs]
 unfold opQ at e
 unfold execOp
 split at e
 ·rename_i x ho
  rw[ho]
  exact⟨_,rfl,zQ TR e⟩
 ·rename_i x ho
  rw[ho]
  exact⟨_,rfl,zQ TR e⟩
 ·rename_i c a b ho
  rw[ho]
  split at e
  ·rename_i cb x y hc hx hy
   simp only[sJ] at e;subst e
   have rc:=zQ (ds:=ds) TR hc
   generalize hcv:Act.eval ⟨tmps,ds⟩ c=c' at rc
   have hc':Act.eval ⟨tmps,ds⟩ c= .bool cb:=by rw[hcv];cases rc;rfl
   refine⟨if cb then Act.eval ⟨tmps,ds⟩ a else Act.eval ⟨tmps,ds⟩ b,by simp[asBool,hc'],?_⟩
   cases cb
   ·exact zQ TR hy
   ·exact zQ TR hx
  ·simp at e
 ·rename_i t x ho
  rw[ho]
  split at e
  ·rename_i a ha
   obtain⟨v',hr,rv⟩:=zgT (P:=P) E R (zQ (ds:=ds) TR ha) e
   exact⟨v',fin hr,rv⟩
  ·simp at e
 ·rename_i op t x y yt ho
  rw[ho]
  split at e
  ·rename_i a b ha hb
   obtain⟨v',hr,rv⟩:=zuV (P:=P) (w:=w) E (zQ (ds:=ds) TR ha) (zQ (ds:=ds) TR hb) e
   exact⟨v',fin hr,rv⟩
  ·simp at e
 ·rename_i op t x ho
  rw[ho]
  split at e
  ·rename_i a ha
   obtain⟨v',hr,rv⟩:=zvr (P:=P) (w:=w) (zQ (ds:=ds) TR ha) e
   exact⟨v',fin hr,rv⟩
  ·simp at e
 ·rename_i s d x ho
  rw[ho]
  split at e
  ·rename_i a ha
   obtain⟨v',hr,rv⟩:=zrV (P:=P) E R (zQ (ds:=ds) TR ha) e
   exact⟨v',fin hr,rv⟩
  ·simp at e
 ·rename_i t x ho
  rw[ho]
  split at e
  ·rename_i a d ha hd
   split at e
   ·simp at e
   ·rename_i hi
    simp only[sJ] at e;subst e
    refine⟨.iface t (Act.eval ⟨tmps,ds⟩ x),fin ?_,.iface _ _ _ (zQ TR ha)⟩
    simp only[Instr.makeInterface,Sem.run_bind,E.runUnd hd,Result.andThen_ok]
    cases d <;>first|rfl|simp[zid] at hi
  ·simp at e
 ·rename_i fn fi ca ho
  rw[ho]
  split at e
  ·rename_i a b ha hb
   simp only[sJ] at e;subst e
   have ra:=vG (ds:=ds) TR ha
   have rb:=vG (ds:=ds) TR hb
   refine⟨.func fn (fi.map (Act.eval ⟨tmps,ds⟩)) (ca.map (Act.eval ⟨tmps,ds⟩)),fin rfl,?_⟩
   refine .func _ _ _ _ _ ?_ ?_ ?_ ?_
   ·simpa using ra.1
   ·intro i x x' hx hx'
    exact ra.2 i x x' (by simpa using hx) (by simpa using hx')
   ·simpa using rb.1
   ·intro i x x' hx hx'
    exact rb.2 i x x' (by simpa using hx) (by simpa using hx')
  ·simp at e
 ·rename_i t x f ho
  rw[ho]
  split at e
  ·rename_i a ha
   obtain⟨v',hr,rv⟩:=zg6 (P:=P) (w:=w) E (zQ (ds:=ds) TR ha) e
   exact⟨v',fin hr,rv⟩
  ·simp at e
 ·rename_i t x f ho
  rw[ho]
  split at e
  ·rename_i a ha
   obtain⟨v',hr,rv⟩:=zoB (P:=P) (w:=w) E (zQ (ds:=ds) TR ha) e
   exact⟨v',fin hr,rv⟩
  ·simp at e
 ·rename_i t x i ho
  rw[ho]
  split at e
  ·rename_i a b ha hb
   obtain⟨v',hr,rv⟩:=zgW (P:=P) (w:=w) E (zQ (ds:=ds) TR ha) (zQ (ds:=ds) TR hb) e
   exact⟨v',fin hr,rv⟩
  ·simp at e
 ·rename_i t x i ho
  rw[ho]
  split at e
  ·rename_i a b ha hb
   obtain⟨v',hr,rv⟩:=zol (P:=P) (w:=w) E (zQ (ds:=ds) TR ha) (zQ (ds:=ds) TR hb) e
   exact⟨v',fin hr,rv⟩
  ·simp at e
 ·rename_i x i ho
  rw[ho]
  split at e
  ·rename_i a ha
   obtain⟨v',hr,rv⟩:=zj2 (P:=P) (w:=w) (zQ (ds:=ds) TR ha) e
   exact⟨v',fin hr,rv⟩
  ·simp at e
 ·rename_i x ho
  rw[ho]
  split at e
  ·rename_i a ha
   simp only[sJ] at e;subst e
   have ra:=zQ (ds:=ds) TR ha
   simp only
   generalize Act.eval ⟨tmps,ds⟩ x=x' at ra ⊢
   cases ra with
   |ptr b o p hp=>exact⟨_,rfl,.ptr b o p hp⟩
  ·simp at e
 ·rename_i t x lo hi mx ho
  rw[ho]
  split at e
  ·rename_i a ha
   obtain⟨v',hr,rv⟩:=zm8 (P:=P) E R (zQ (ds:=ds) TR ha) (qO.of TR lo) (qO.of TR hi) (qO.of TR mx) e
   exact⟨v',fin hr,rv⟩
  ·simp at e
 ·rename_i t ps ho
  rw[ho]
  split at e
  ·rename_i vs hvs
   obtain⟨h1,h2⟩:=zdP (ds:=ds) TR hvs
   obtain⟨v',hr,rv⟩:=zpd (P:=P) (w:=w) (ps':=ps.toList.map fun p=>(p.1,Act.eval ⟨tmps,ds⟩ p.2)) E (by rw[List.map_map];exact h1) (by rw[List.map_map];exact h2) e
   refine⟨v',fin ?_,rv⟩
   rw[← hr]
   congr 2
   apply Array.ext'
   simp
  ·simp at e
 ·rename_i az ts ho
  rw[ho]
  split at e
  ·rename_i x l t hl ht
   have ra:=vG (ds:=ds) TR hl
   rcases ra.cases with⟨h,_⟩|⟨x1,x',m,m',h,h',rx,rm⟩
   ·simp at h
   ·simp only[List.cons.injEq] at h;obtain⟨rfl,rfl⟩:=h
    have hlen:∃ v',(Builtin.len_ ts o.type ⟨x'::m'⟩).run P w= .ok v' w∧VRel μ v v':=by
     split at e
     ·rename_i v1 h1
      simp only[sJ] at e;subst e
      exact zt6 (P:=P) (w:=w) (rt:=o.type) (rest:=m') E ht rx h1
     ·exact zrc (P:=P) (rt:=o.type) (rest:=m') E R ht rx e
    obtain⟨v',hr,rv⟩:=hlen
    refine⟨v',?_,rv⟩
    have:az.map (Act.eval ⟨tmps,ds⟩)=⟨x'::m'⟩:=by apply Array.ext';simp[h']
    simp[resolve,invoke,builtin,this,hr]
  ·simp at e
 ·rename_i t x k ok ho
  rw[ho]
  split at e
  ·rename_i a b ha hb
   obtain⟨v',hr,rv⟩:=zlD (P:=P) E R (zQ (ds:=ds) TR ha) (zQ (ds:=ds) TR hb) e
   exact⟨v',fin hr,rv⟩
  ·simp at e
 ·rename_i az ts ho
  rw[ho]
  split at e
  ·rename_i x l t hl ht
   have ra:=vG (ds:=ds) TR hl
   rcases ra.cases with⟨h,_⟩|⟨x1,x',m,m',h,h',rx,rm⟩
   ·simp at h
   ·simp only[List.cons.injEq] at h;obtain⟨rfl,rfl⟩:=h
    obtain⟨v',hr,rv⟩:=zuP (P:=P) (rt:=o.type) (rest:=m') E R ht rx e
    refine⟨v',?_,rv⟩
    have:az.map (Act.eval ⟨tmps,ds⟩)=⟨x'::m'⟩:=by apply Array.ext';simp[h']
    simp[resolve,invoke,builtin,this,hr]
  ·simp at e
 ·rename_i az ts ho
  rw[ho]
  split at e
  ·rename_i x l hl
   have ra:=vG (ds:=ds) TR hl
   rcases ra.cases with⟨h,_⟩|⟨x1,x',m,m',h,h',rx,rm⟩
   ·simp at h
   ·simp only[List.cons.injEq] at h;obtain⟨rfl,rfl⟩:=h
    obtain⟨k,n,rfl⟩:=zgO e
    cases rx
    obtain⟨hr,rv⟩:=zn5 (P:=P) (w:=w) l m' k n v rm e
    refine⟨v,?_,rv⟩
    simp[resolve,invoke,builtin,Builtin.min_,h',hr]
  ·simp at e
 ·rename_i az ts ho
  rw[ho]
  split at e
  ·rename_i x l hl
   have ra:=vG (ds:=ds) TR hl
   rcases ra.cases with⟨h,_⟩|⟨x1,x',m,m',h,h',rx,rm⟩
   ·simp at h
   ·simp only[List.cons.injEq] at h;obtain⟨rfl,rfl⟩:=h
    obtain⟨k,n,rfl⟩:=zgO e
    cases rx
    obtain⟨hr,rv⟩:=zn6 (P:=P) (w:=w) l m' k n v rm e
    refine⟨v,?_,rv⟩
    simp[resolve,invoke,builtin,Builtin.max_,h',hr]
  ·simp at e
 ·simp at e
end
section
variable {P:Program} {env:Env} {μ:Loc} {h:Heap} {w:World} {tm:T Value} {tmps:Array Value}
def Loc.upd(μ:Loc)(b:Nat)(p:Place):Loc:=fun x=>if x=b then some p else μ x
theorem zC(μ:Loc)(b:Nat)(p:Place):μ.upd b p b=some p:=by simp[Loc.upd]
theorem zq(μ:Loc)(b c:Nat)(p:Place)(e:c≠b):μ.upd b p c=μ c:=by simp[Loc.upd,e]
theorem jF{μ:Loc}{b:Nat}{p:Place}(e:μ b=none):μ.le (μ.upd b p):=by
 intro c q hc
 by_cases hcb:c=b
 ·subst hcb;rw[e] at hc;simp at hc
 ·rw[zq _ _ _ _ hcb];exact hc
theorem zg2(R:Rep μ h w){p:Place}{o:AObj}{u:World}(hs:u.heap.size=w.heap.size+1)(hold:∀ k,k < w.heap.size→u.heap[k]? =w.heap[k]?)
  (hos:u.os=w.os) (hout:u.output=w.output) (htape:u.tape=w.tape) (hp:p.pb=w.heap.size) (ho:jK (μ.upd h.nx p) u p o):
  Go1 μ h w (μ.upd h.nx p) (h.alloc o) u:=by
 have hle:μ.le (μ.upd h.nx p):=jF (R.fh _ (nL_ _))
 refine⟨hle,⟨?_,?_,?_,?_,R.glob.mono hle⟩,by omega,?_,fun k hk _=>hold k hk,hos,hout,htape,Nat.le_succ _,fun b hb=>zq _ _ _ _ (by omega)⟩
 ·intro b x hb
  rw[wB] at hb
  split at hb
  ·rename_i e
   subst e
   simp only[sJ] at hb;subst hb
   exact⟨p,zC _ _ _,ho⟩
  ·rename_i e
   obtain⟨q,hq,hoq⟩:=R.live b x hb
   have hlt:=R.bound b q hq
   exact⟨q,by rw[zq _ _ _ _ e];exact hq,(hoq.mono hle).world (hold _ hlt)⟩
 ·intro b b' x x' q q' hb hb' hq hq' hpb hw
  rw[wB] at hb hb'
  by_cases e:b=h.nx <;>by_cases e':b'=h.nx
  ·rw[e,e']
  ·exfalso
   rw[if_neg e'] at hb'
   rw[e,zC] at hq
   rw[zq _ _ _ _ e'] at hq'
   simp only[sJ] at hq;subst hq
   have:=R.bound _ _ hq'
   omega
  ·exfalso
   rw[if_neg e] at hb
   rw[e',zC] at hq'
   rw[zq _ _ _ _ e] at hq
   simp only[sJ] at hq';subst hq'
   have:=R.bound _ _ hq
   omega
  ·rw[if_neg e] at hb
   rw[if_neg e'] at hb'
   rw[zq _ _ _ _ e] at hq
   rw[zq _ _ _ _ e'] at hq'
   exact R.inj b b' x x' q q' hb hb' hq hq' hpb hw
 ·intro b hb
  have:b≠h.nx:=by
   show b≠h.nx
   have:h.nx+1≤b:=hb
   omega
  rw[zq _ _ _ _ this]
  exact R.fh b (by have:h.nx+1≤b:=hb;omega)
 ·intro b q hq
  by_cases e:b=h.nx
  ·rw[e,zC] at hq
   simp only[sJ] at hq;subst hq
   omega
  ·rw[zq _ _ _ _ e] at hq
   have:=R.bound b q hq
   omega
 ·rintro k ⟨b,x,q,hb,hq,rfl⟩ hk
  rw[wB] at hb
  by_cases e:b=h.nx
  ·rw[e,zC] at hq
   simp only[sJ] at hq;subst hq
   omega
  ·rw[if_neg e] at hb
   rw[zq _ _ _ _ e] at hq
   exact⟨b,x,q,hb,hq,rfl⟩
theorem zcj(R:Rep μ h w){b:Nat}{p:Place}{x o:AObj}{u:World}(hb:h.get b=some x)(hp:μ b=some p)(hs:u.heap.size=w.heap.size)
  (hold:∀ k,k≠p.pb→u.heap[k]? =w.heap[k]?) (hos:u.os=w.os) (hout:u.output=w.output) (htape:u.tape=w.tape) (ho:jK μ u p o) (hw:x.ro=false:=by rfl):
  Go1 μ h w μ (h.put b o) u:=by
 have hlt:=za hb
 refine⟨μ.le_refl,⟨?_,?_,R.fh,?_,R.glob⟩,by omega,?_,?_,hos,hout,htape,nL_ _,fun _ _=>rfl⟩
 ·intro c y hc
  rw[Heap.get_put _ _ _ _ hlt] at hc
  split at hc
  ·rename_i e
   subst e
   simp only[sJ] at hc;subst hc
   exact⟨p,hp,ho⟩
  ·rename_i e
   obtain⟨q,hq,hoq⟩:=R.live c y hc
   refine⟨q,hq,hoq.world (hold _ ?_)⟩
   intro hpb
   exact e (R.inj c b y x q p hc hb hq hp hpb (by rw[hw,Bool.and_false]))
 ·intro c c' y y' q q' hc hc' hq hq' hpb hy
  rw[Heap.get_put _ _ _ _ hlt] at hc hc'
  have g:∀ d z,(if d=b then some o else h.get d)=some z→∃ z',h.get d=some z'∧(z'.ro=false∨z'=z):=by
   intro d z hd
   split at hd
   ·rename_i e;subst e;exact⟨x,hb,.inl hw⟩
   ·exact⟨z,hd,.inr rfl⟩
  obtain⟨z,hz,g1⟩:=g c y hc
  obtain⟨z',hz',g2⟩:=g c' y' hc'
  refine R.inj c c' z z' q q' hz hz' hq hq' hpb ?_
  rcases g1 with g1|rfl
  ·rw[g1,Bool.false_and]
  rcases g2 with g2|rfl
  ·rw[g2,Bool.and_false]
  ·exact hy
 ·intro c q hq
  have:=R.bound c q hq
  omega
 ·rintro k ⟨c,y,q,hc,hq,rfl⟩ _
  rw[Heap.get_put _ _ _ _ hlt] at hc
  split at hc
  ·rename_i e;subst e;exact⟨c,x,q,hb,hq,rfl⟩
  ·exact⟨c,y,q,hc,hq,rfl⟩
 ·intro k hk hown
  refine hold k ?_
  rintro rfl
  exact hown ⟨b,x,p,hb,hp,rfl⟩
theorem oneCell_eq{v v':Value}(r:VRel μ v v')(e:jh v=true):v'.oneCell'=true:=by
 cases r <;>first|rfl|simp[jh] at e
theorem yo{b o:Nat}{p:Place}(hp:μ b=some p):∀ (vs vs':Vs) (k:Nat) (h h':Heap) (w:World),Rep μ h w→zh μ vs vs'→
  jd h ⟨b,o+k,none⟩ vs=some h'→∃ u,(storeCells ⟨p.pb,p.po+o,none⟩ vs' k).run P w= .ok () u∧Go1 μ h w μ h' u:=by
 intro vs
 induction vs with
 |nil=>
  intro vs' k h h' w R r e
  rcases r.cases with⟨_,rfl⟩|⟨_,_,_,_,hnil,_⟩
  ·refine⟨w,rfl,?_⟩
   unfold jd at e
   split at e
   ·rename_i el cells es hg hs
    simp only[uG,sJ] at e;subst e
    obtain⟨q,hq,ho⟩:=R.live _ _ hg
    simp only at hq hg
    rw[hp] at hq;simp only[sJ] at hq;subst hq
    exact zcj R hg hp rfl (fun _ _=>rfl) rfl rfl rfl ho
   ·simp at e
  ·simp at hnil
 |cons v vs ih=>
  intro vs' k h h' w R r e
  rcases r.cases with⟨h1,_⟩|⟨x,v',m,m',h1,rfl,rv,rm⟩
  ·simp at h1
  simp only[List.cons.injEq] at h1
  obtain⟨rfl,rfl⟩:=h1
  unfold jd at e
  split at e
  ·rename_i el cells es hg hs
   simp only at hg
   split at e
   ·rename_i cells' hset
    simp only[sJ] at e;subst e
    simp only[uG] at hset
    split at hset
    ·rename_i hone
     split at hset
     ·rename_i hlt
      obtain⟨q,hq,ho⟩:=R.live _ _ hg
      rw[hp] at hq;simp only[sJ] at hq;subst hq
      have ho':=ho
      obtain⟨arr,fr,a1,a2,a3,a4,a5,a6,a7⟩:=ho
      have hpb:=R.bound _ _ hp
      have hc:w.cell? ⟨p.pb,p.po+o+k,none⟩=some (arr[p.po+o+k]'(by omega)):=by
       rw[cell_of_row w p.pb _ arr el fr a1,Array.getElem?_eq_getElem (by omega)]
      have hf:w.frozen? ⟨p.pb,p.po+o+k,none⟩=false:=by
       have:=a7.1 rfl (p.po+o+k) (by omega)
       simp only[World.frozen?,a1]
       simp only[Bool.and_eq_false_iff,decide_eq_false_iff_not]
       by_cases h1:fr.1≤p.po+o+k
       ·right;intro h2;exact this ⟨h1,h2,by omega⟩
       ·left;exact h1
      have hrun:(store ((⟨p.pb,p.po+o,none⟩:Addr).add k) v').run P w= .ok () (w.setCell ⟨p.pb,p.po+o+k,none⟩ v'):=by
       simp only[jj]
       rw[run_store P w _ _ _ (oneCell_eq rv hone)]
       simp[hc,hf]
      have hheap:(w.setCell ⟨p.pb,p.po+o+k,none⟩ v').heap[p.pb]? =some (.cells (arr.setIfInBounds (p.po+o+k) v') el fr):=by
       simp[World.setCell,Array.getElem?_modify,a1]
      have g1:Go1 μ h w μ (h.put b (.row el (cells.set (o+k) v) es false)) (w.setCell ⟨p.pb,p.po+o+k,none⟩ v'):=by
       refine zcj R hg hp (by simp[World.setCell]) (fun j hj=>?_) rfl rfl rfl ?_
       ·simp only[World.setCell,Array.getElem?_modify]
        rw[if_neg (fun e=>hj e.symm)]
       ·refine⟨_,fr,hheap,by simpa using a2,a3,by simpa using a4,a5,?_,⟨fun hr i hi hh=>a7.1 hr i hi ⟨hh.1,hh.2.1,by simpa using hh.2.2⟩,fun h=>by cases h⟩⟩
        have:=a6.set (o+k) rv
        rw[show((arr.setIfInBounds (p.po+o+k) v').toList.drop p.po).take p.size=((arr.toList.drop p.po).take p.size).set (o+k) v' by
         rw[Array.toList_setIfInBounds,List.drop_set,if_neg (by omega),List.take_set]
         congr 1;omega]
        exact this
      have hg2:(h.put b (.row el (cells.set (o+k) v) es false)).get b=some (.row el (cells.set (o+k) v) es false):=by
       rw[Heap.get_put _ _ _ _ (za hg)];simp
      obtain⟨u,hu,g2⟩:=ih m' (k+1) (h.put b (.row el (cells.set (o+k) v) es false)) ((h.put b (.row el (cells.set (o+k) v) es false)).put b (.row el cells' es false)) _ g1.rep rm (by
       unfold jd
       simp only[hg2]
       rw[show o+(k+1)=o+k+1 by omega,hset])
      refine⟨u,?_,?_⟩
      ·simp only[storeCells,Sem.run_bind]
       rw[hrun]
       simpa using hu
      · -- two puts in one block are one
       rw[Heap.put_put] at g2
       exact g1.trans g2
     ·simp at hset
    ·simp at hset
   ·simp at e
  ·simp at e
end
section
variable {P:Program} {env:Env} {μ:Loc} {h:Heap} {w:World} {tm:T Value} {tmps:Array Value}
structure NewObj(μ:Loc)(w u:World)(p:Place)(o:AObj)(mk:Nat→Value)(v':Value):Prop where
 pb:p.pb=w.heap.size
 size:u.heap.size=w.heap.size+1
 old:∀ k,k < w.heap.size→u.heap[k]? =w.heap[k]?
 os:u.os=w.os
 out:u.output=w.output
 tape:u.tape=w.tape
 rel:∀ ν b,μ.le ν→ν b=some p→jK ν u p o∧VRel ν (mk b) v'
theorem NewObj.go{p:Place}{o:AObj}{mk:Nat→Value}{v':Value}{u:World}(R:Rep μ h w)(n:NewObj μ w u p o mk v'):
  Go1 μ h w (μ.upd h.nx p) (h.alloc o) u∧VRel (μ.upd h.nx p) (mk h.nx) v':=by
 have r:=n.rel (μ.upd h.nx p) h.nx (jF (R.fh _ (nL_ _))) (zC _ _ _)
 exact⟨zg2 R n.size n.old n.os n.out n.tape n.pb r.1,r.2⟩
theorem zeC{ν:Loc}{u:World}{t:TypeId}{cells cells':Vs}{p:Place}{fr:Nat×Nat}(arr:Array Value)(hh:u.heap[p.pb]? =some (.cells arr t fr))(ha:arr.toList=cells')
  (hr:zh ν cells cells') (h0:p.po=0) (h1:p.size=cells.length) (h2:p.extra=0) (h3:p.es=0) (hf:fr=(0,0)):jK ν u p (.row t cells 0 false):=by
 refine⟨arr,fr,hh,h1,h3,?_,⟨fun _=>h2,fun _=>h0⟩,?_,?_⟩
 ·have:=congrArg List.length ha
  have hl:=hr.1
  simp at this
  omega
 ·rw[h0,h1,List.drop_zero,ha,hr.1,List.take_length]
  exact hr
 ·refine⟨?_,fun h=>by cases h⟩
  intro _ i _ hh
  subst hf
  simp at hh
theorem new_var(t:TypeId)(cells:Vs)(v':Value)(hr:zh μ cells v'.cells.toList):
  ∃ p:Place,(do pure (.pointer (some (← newVar t v'))):Sem Value).run P w= .ok (.pointer (some ⟨w.heap.size,0,none⟩)) (w.alloc (.cells v'.cells t))∧
   NewObj μ w (w.alloc (.cells v'.cells t)) p (.row t cells 0 false) (fun b=>.pointer (some ⟨b,0,none⟩)) (.pointer (some ⟨w.heap.size,0,none⟩)):=by
 refine⟨⟨w.heap.size,0,cells.length,0,0,none⟩,?_,⟨rfl,by simp,fun k hk=>heap_alloc_old w _ k hk,rfl,rfl,rfl,?_⟩⟩
 ·simp[newVar,newRow]
 ·intro ν b hle hb
  refine⟨zeC v'.cells (heap_alloc_new w _) rfl (hr.mono hle) rfl rfl rfl rfl rfl,?_⟩
  exact .ptr b 0 _ hb
theorem zhV{ν:Loc}{z z':Vs}(r:zh ν z z'):∀ n,zh ν (rep n z) (rep n z'):=by
 intro n
 induction n with
 |zero=>exact .nil
 |succ n ih=>exact r.append ih
theorem zk1(z:Array Value):∀ n,((Array.range (n * z.size)).map (fun i=>z[i % z.size]!)).toList=rep n z.toList:=by
 intro n
 apply List.ext_getElem?
 intro i
 have key:∀ n i,(rep n z.toList)[i]? =if i < n * z.size then some z[i % z.size]! else none:=by
  intro n
  induction n with
  |zero=>intro i;simp[rep]
  |succ n ih=>
   intro i
   simp only[rep]
   by_cases hi:i < z.size
   ·rw[List.getElem?_append_left (by simpa using hi)]
    rw[if_pos (by rw[Nat.succ_mul];omega),Nat.mod_eq_of_lt hi]
    simp[hi]
   ·rw[List.getElem?_append_right (by simpa using hi)]
    rw[Array.length_toList,ih]
    have hm:(i - z.size) % z.size=i % z.size:=by
     rw[← Nat.mod_eq_sub_mod (by omega)]
    rw[hm]
    by_cases hlt:i < (n+1) * z.size
    ·rw[if_pos hlt,if_pos (by rw[Nat.succ_mul] at hlt;omega)]
    ·rw[if_neg hlt,if_neg (by rw[Nat.succ_mul] at hlt;omega)]
 rw[key]
 simp only[Array.toList_map,Array.toList_range,List.getElem?_map]
 by_cases hlt:i < n * z.size
 ·simp[hlt]
 ·simp[hlt]
theorem zk4(TR:wi μ tm tmps){ds:List Deferred}{x:Operand}{k:IntKind}{n:Int}(e:rd tm x=some (.int k n)):Act.eval ⟨tmps,ds⟩ x= .int k n:=by
 have r:=zQ (ds:=ds) TR e
 generalize Act.eval ⟨tmps,ds⟩ x=v at r
 cases r;rfl
theorem zk3(TR:wi μ tm tmps){ds:List Deferred}{x:Operand}{s:BA}(e:rd tm x=some (.string s)):Act.eval ⟨tmps,ds⟩ x= .string s:=by
 have r:=zQ (ds:=ds) TR e
 generalize Act.eval ⟨tmps,ds⟩ x=v at r
 cases r;rfl
theorem zhm(E:EnvOK P env)(TR:wi μ tm tmps){ds:List Deferred}{o:Oper}{mk:Nat→Value}{obj:AObj}(e:opA env tm o.op=some (mk,obj)):
  ∃ v' u p,(execOp (Act.eval ⟨tmps,ds⟩) o).run P w= .ok (.value v') u∧NewObj μ w u p obj mk v':=by
 have fin:∀ {s:Sem Value} {v':Value} {u:World},s.run P w= .ok v' u→(do pure (.value (← s)):Sem Next).run P w= .ok (.value v') u:=by
  intro s v' u hs
  simp[hs]
 unfold opA at e
 unfold execOp
 split at e
 ·rename_i t ho
  rw[ho]
  split at e
  ·rename_i z hz
   simp only[sJ,pJ] at e
   obtain⟨rfl,rfl⟩:=e
   obtain⟨p,hr,hn⟩:=new_var (P:=P) (w:=w) t z.cells.toList z (zh.cells ((E.zero t z hz).2 μ))
   refine⟨_,_,p,fin (s:=Instr.alloc t true (.tuple #[])) ?_,hn⟩
   simp only[Instr.alloc,Sem.run_bind,E.runZero hz,Result.andThen_ok]
   simpa using hr
  ·simp at e
 ·rename_i t x ho
  rw[ho]
  split at e
  ·rename_i v hv
   simp only[sJ,pJ] at e
   obtain⟨rfl,rfl⟩:=e
   obtain⟨p,hr,hn⟩:=new_var (P:=P) (w:=w) t v.cells.toList (Act.eval ⟨tmps,ds⟩ x) (zh.cells (zQ TR hv))
   exact⟨_,_,p,fin hr,hn⟩
  ·simp at e
 ·rename_i t len ps ho
  rw[ho]
  split at e
  ·rename_i el vs hu hvs
   split at e
   ·rename_i s z hs hz
    split at e
    ·rename_i hb
     simp only[bA,Nat.ble_eq,Bool.not_eq_true'] at hb
     obtain⟨⟨hb1,hb2⟩,hb3⟩:=hb
     have hb1:=nB_ hb1
     have hs0:s≠0:=fun h=>by subst h;simp at hb2
     split at e
     ·rename_i cs hf
      simp only[sJ,pJ] at e
      obtain⟨rfl,rfl⟩:=e
      obtain⟨h1,h2⟩:=zdP (ds:=ds) TR hvs
      have zr:=(E.zero el z hz).2 μ
      have hzs:z.cells.size=s:=by simpa using hb1
      obtain⟨out',ho',ro⟩:=zeW (place:=fun i=>some (i * s,s)) (place':=fun i=>some (i * s,s)) (fun _ _ h=>h) vs (ps.toList.map fun p=>(p.1,Act.eval ⟨tmps,ds⟩ p.2))
       (rep len z.cells.toList) ((Array.range (len * s)).map (fun i=>z.cells[i % z.cells.size]!)) cs (by rw[List.map_map];exact h1) (by rw[List.map_map];exact h2) (by
        rw[← hzs,zk1 z.cells len]
        exact zhV (zh.cells zr) len) hf
      refine⟨.slice (some ⟨w.heap.size,0,none⟩) len len,w.alloc (.cells out' el),⟨w.heap.size,0,cs.length,0,0,none⟩,fin ?_,⟨rfl,by simp,fun k hk=>heap_alloc_old w _ k hk,rfl,rfl,rfl,?_⟩⟩
      ·have hps:(ps.map fun(i,x)=>(i,Act.eval ⟨tmps,ds⟩ x)).toList=ps.toList.map fun p=>(p.1,Act.eval ⟨tmps,ds⟩ p.2):=by simp
       have hbig:¬ (2 ^ 24 < len * s):=by omega
       by_cases hl0:len * s=0
       · -- an empty literal
        have hl:len=0:=by
         rcases Nat.mul_eq_zero.1 hl0 with h|h
         ·exact h
         ·exact absurd h hs0
        subst hl
        simp only[Nat.zero_mul,Array.range_zero',List.map_toArray,List.map_nil] at ho'
        simp[Instr.buildSlice,E.runUnd hu,E.runSize hs,newRow,Array.range_zero',ho']
       ·have hl1:¬ (len=0∨s=0):=by
         intro hh;exact hl0 (Nat.mul_eq_zero.2 hh)
        simp only[Instr.buildSlice,Sem.run_bind,E.runUnd hu,Result.andThen_ok,E.runSize hs,Sem.run_ite]
        rw[if_neg (by omega),if_neg hl0]
        simp[E.runZero hz,newRow,ho']
      ·intro ν b hle hb
       exact⟨zeC out' (heap_alloc_new w _) rfl (ro.mono hle) rfl rfl rfl rfl rfl,.slice b 0 len len len _ hb (.inl rfl)⟩
     ·simp at e
    ·simp at e
   ·simp at e
  ·simp at e
 ·rename_i t l c ho
  rw[ho]
  split at e
  ·rename_i el k1 l k2 c hu hl hc
   split at e
   ·rename_i s z by_ hs hz hby
    split at e
    ·rename_i hb
     simp only[bA,Bool.not_eq_true',decide_eq_true_eq] at hb
     obtain⟨⟨⟨⟨⟨hb1,hb2⟩,hl0⟩,hlc⟩,hcb⟩,hcm⟩:=hb
     have hb1:=nB_ hb1
     have hs0:s≠0:=fun h=>by subst h;simp at hb2
     simp only[sJ,pJ] at e
     obtain⟨rfl,rfl⟩:=e
     have rl:=zk4 (ds:=ds) TR hl
     have rc:=zk4 (ds:=ds) TR hc
     simp only[rl,rc]
     obtain⟨i,hi,rfl⟩:=E.bytes _ _ hby
     have zr:=(E.zero el z hz).2 μ
     have hzs:z.cells.size=s:=by simpa using hb1
     have wl:IntKind.i64.wrap l=l:=by simp[IntKind.wrap,IntKind.bits,IntKind.signed];omega
     have wc:IntKind.i64.wrap c=c:=by simp[IntKind.wrap,IntKind.bits,IntKind.signed];omega
     let arr:Array Value:=(Array.range (c.toNat * s)).map (fun i=>z.cells[i % z.cells.size]!)
     have harr:arr.toList=rep c.toNat z.cells.toList:=by
      show((Array.range (c.toNat * s)).map _).toList=_
      rw[← hzs,zk1 z.cells c.toNat]
     refine⟨.slice (some ⟨w.heap.size,0,none⟩) l.toNat c.toNat,w.alloc (.cells arr el),⟨w.heap.size,0,(rep c.toNat z.cells.toList).length,0,0,none⟩,fin (s:=Instr.makeSlice t (.int k1 l) (.int k2 c)) ?_,⟨rfl,by simp,fun k hk=>heap_alloc_old w _ k hk,rfl,rfl,rfl,?_⟩⟩
     ·have g1:¬ ((i.bytes:Int) * c>2 ^ 48):=by rw[Int.mul_comm];omega
      have g2:¬ c < 0:=by omega
      have g3:¬ l < 0:=by omega
      have g4:¬ l>c:=by omega
      simp only[Instr.makeSlice,Sem.run_bind,E.runUnd hu,Result.andThen_ok,asInt,asIntOf,Sem.run_pure,E.runInfo hi,wl,wc]
      simp only[g1,g2,g3,g4,decide_false,Bool.or_false,Bool.false_eq_true,if_false,Sem.run_bind,Result.andThen_ok,run_askRoom,E.runSize hs]
      by_cases hn:c.toNat * s=0
      ·have hc0:c.toNat=0:=by
        rcases Nat.mul_eq_zero.1 hn with h|h
        ·exact h
        ·exact absurd h hs0
       have:arr= #[]:=by apply Array.ext';rw[harr,hc0];rfl
       simp[hn,newRow,Array.range_zero',this]
      ·simp only[hn,if_false,Sem.run_bind,E.runZero hz,Result.andThen_ok,Sem.run_pure]
       simp[newRow,arr]
     ·intro ν b hle hb
      refine⟨zeC arr (heap_alloc_new w _) harr ?_ rfl rfl rfl rfl rfl,.slice b 0 l.toNat c.toNat c.toNat _ hb (.inl rfl)⟩
      exact zhV ((zh.cells zr).mono hle) c.toNat
    ·simp at e
   ·simp at e
  ·simp at e
 ·rename_i t ho
  rw[ho]
  split at e
  ·rename_i k el hu
   simp only[sJ,pJ] at e
   obtain⟨rfl,rfl⟩:=e
   refine⟨.map (some w.heap.size),w.alloc (.map #[] 0),⟨w.heap.size,0,0,0,0,none⟩,fin (s:=Instr.makeMap t none) ?_,⟨rfl,by simp,fun k hk=>heap_alloc_old w _ k hk,rfl,rfl,rfl,?_⟩⟩
   ·simp[Instr.makeMap]
   ·intro ν b hle hb
    exact⟨⟨#[],0,heap_alloc_new w _,rfl,fun i e kv h=>by simp at h,fun i e h=>by simp at h,fun i j e e' h=>by simp at h⟩,.map b _ hb⟩
  ·simp at e
 ·rename_i t x ho
  rw[ho]
  split at e
  ·rename_i s hu hx
   simp only[sJ,pJ] at e
   obtain⟨rfl,rfl⟩:=e
   have rx:=zk3 (ds:=ds) TR hx
   simp only[rx]
   refine⟨.pointer (some ⟨w.heap.size,0,none⟩),w.alloc (.stringIter s 0),⟨w.heap.size,0,0,0,0,none⟩,fin (s:=Instr.range t (.string s)) ?_,⟨rfl,by simp,fun k hk=>heap_alloc_old w _ k hk,rfl,rfl,rfl,?_⟩⟩
   ·simp[Instr.range,E.runUnd hu]
   ·intro ν b hle hb
    exact⟨⟨heap_alloc_new w _,rfl⟩,.ptr b 0 _ hb⟩
  ·simp at e
 ·rename_i s d x ho
  rw[ho]
  split at e
  ·rename_i el b hus hud hx
   split at e
   ·rename_i hue hse
    split at e
    ·rename_i hlen
     simp only[Nat.ble_eq] at hlen
     simp only[sJ,pJ] at e
     obtain⟨rfl,rfl⟩:=e
     have rx:=zk3 (ds:=ds) TR hx
     simp only[rx]
     let q:Question:=.appendCap b.size 0 el
     let c:Nat:=q.cut (w.tape w.drawn q)
     have hc:b.size≤c:=by
      show b.size≤b.size+_
      omega
     have hbl:b.data.toList.length=b.size:=by simp
     let cells':Vs:=b.data.toList.map fun x=>.int .u8 (x.toNat:Int)
     let arr:Array Value:=(b.data.map fun x=>Value.int .u8 (x.toNat:Int))++Array.replicate (c - b.size) (.int .u8 0)
     have harr:arr.toList=cells'++List.replicate (c - b.size) (.int .u8 0):=by simp[arr,cells']
     have hsz:arr.size=c:=by simp[arr];omega
     let w1:World:={w with drawn:=w.drawn+1}
     let u:World:=(w1.alloc (.cells arr el)).freeze {block:=w.heap.size,off:=c} 1
     have hu0:u.heap[w.heap.size]? =some (.cells arr el (c,c+1)):=by
      simp[u,w1,World.freeze,World.alloc,Array.getElem_modify]
     refine⟨.slice (some ⟨w.heap.size,0,none⟩) b.size c,u,⟨w.heap.size,0,b.data.toList.length,c - b.size,1,none⟩,fin (s:=convert s d (.string b)) ?_,⟨rfl,by simp[u,w1,World.freeze,World.alloc],?_,rfl,rfl,rfl,?_⟩⟩
     ·have hsh:(w1.alloc (.cells arr el)).shape? w.heap.size=some (el,c):=by
       simp[World.shape?,World.alloc,w1,hsz]
      simp only[convert,Sem.run_bind,E.runUnd hus,E.runUnd hud,Result.andThen_ok,E.runUnd hue,Conv.stringToBytes,run_choose]
      rw[if_neg (by simp[Question.forced])]
      simp only[Result.andThen_ok,newRow,Sem.run_bind,run_newObj,Sem.run_pure,markStringish,run_shape]
      split
      ·rename_i e1 n1 hsm
       have:=hsm.symm.trans hsh
       simp only[sJ,pJ] at this
       obtain⟨rfl,rfl⟩:=this
       rfl
      ·rename_i hno
       exact absurd hsh (hno _ _)
     ·intro k hk
      simp[u,w1,World.freeze,World.alloc,Array.getElem?_modify]
      rw[if_neg (by omega)]
      simp[Array.getElem?_push,hk]
      omega
     ·intro ν k hle hk
      refine⟨⟨arr,(c,c+1),hu0,?_,rfl,?_,⟨fun h=>by simp at h,fun _=>rfl⟩,?_,?_⟩,?_⟩
      ·simp
      ·simp[hsz];omega
      ·simp only[List.drop_zero]
       rw[harr,List.take_append_of_le_length (by simp[cells']),List.take_of_length_le (by simp[cells'])]
       refine⟨by simp[cells'],fun i x x' hx hx'=>?_⟩
       have:x=x':=by
        have:=hx.symm.trans hx'
        simpa using this
       subst this
       simp only[List.getElem?_map,Option.map_eq_some_iff] at hx
       obtain⟨y,_,rfl⟩:=hx
       exact .int _ _
      ·refine⟨?_,fun h=>by cases h⟩
       intro _ i _ hh
       have:=hh.1
       have:=hh.2.2
       omega
      ·refine .slice k 0 _ _ c _ hk (.inr ⟨by simp,by simp,by simp;omega,?_⟩)
       simp;omega
    ·simp at e
   ·simp at e
  ·simp at e
 ·simp at e
end
end Go.PanE
