/-
 Part 6 of the proof of Rows.DumpLinesCardSaid. Under the conditions that its statements name (EnvOK and the like).
-/
import Derived.Test.YtihkphfmnnndfaaGreatDoorT05
import Derived.LoopN
namespace Go.PanE
theorem Keep.refl(h:Heap):Keep h h:=⟨nL_ _,nL_ _,fun _ _ _=>rfl,fun _ _ e=>e⟩
theorem Keep.trans{h g f:Heap}(a:Keep h g)(b:Keep g f):Keep h f:=
 ⟨nT a.nx b.nx,nT b.wm a.wm,fun k h1 h2=>(b.get k (nU h1 a.nx) h2).trans (a.get k h1 (nU h2 b.wm)),
  fun k h1 h2=>b.no k (nU h1 a.nx) (a.no k h1 h2)⟩
theorem yj(b m:Nat):(bif Nat.blt b m then b else m)=min b m:=by
 cases e:Nat.blt b m
 ·have:¬ b < m:=by intro hl;rw[← Nat.blt_eq,e] at hl;simp at hl
  simp;omega
 ·rw[Nat.blt_eq] at e
  simp;omega
theorem Keep.alloc(h:Heap)(o:AObj):Keep h (h.alloc o):=
 ⟨Nat.le_succ _,nL_ _,fun b h1 _=>by rw[wB,if_neg (by omega)],fun b h1 e=>by rw[wB,if_neg (by omega)];exact e⟩
theorem Keep.put(h:Heap)(c:Nat)(o:AObj){x:AObj}(hx:h.get c=some x):Keep h (h.put c o):=by
 have hc:=za hx
 refine⟨nL_ _,?_,fun b h1 h2=>?_,fun b h1 e=>?_⟩
 rotate_right
 ·rw[Heap.get_put _ _ _ _ hc]
  split
  ·rename_i hb;subst hb;rw[hx] at e;simp at e
  ·exact e
 ·show(bif Nat.blt c h.wm then c else h.wm)≤h.wm
  rw[yj];omega
 ·have h2':b < min c h.wm:=by rw[← yj];exact h2
  rw[Heap.get_put _ _ _ _ hc,if_neg (by omega)]
theorem Keep.kill(h:Heap)(c:Nat):Keep h (h.kill c):=by
 refine⟨nL_ _,?_,fun b h1 h2=>?_,fun b h1 e=>by rw[qJ,e];simp⟩
 ·show(bif Nat.blt c h.wm then c else h.wm)≤h.wm
  rw[yj];omega
 ·have h2':b < min c h.wm:=by rw[← yj];exact h2
  rw[qJ,if_neg (by omega)]
def wa(call:FuncId→Vs→Heap→Option (Value×Heap)):Prop:=∀ f args h v h',call f args h=some (v,h')→Keep h h'
section
variable {P:Program} {env:Env} {μ:Loc} {h:Heap} {w:World} {tm:T Value} {tmps:Array Value} {call:FuncId→Vs→Heap→Option (Value×Heap)}
theorem vF{a:Addr}{vs:Vs}{h':Heap}(e:jd h a vs=some h'):Keep h h':=by
 unfold jd at e
 split at e
 ·rename_i el cells es hg hs
  split at e
  ·simp only[sJ] at e;subst e
   exact Keep.put _ _ _ hg
  ·simp at e
 ·simp at e
theorem zhB{ts:Array TypeId}{s x v:Value}{h':Heap}(e:zu env h ts s x=some (v,h')):Keep h h':=by
 unfold zu at e
 split at e
 ·split at e
  ·split at e
   ·split at e
    ·split at e
     ·simp at e
     split at e
     ·split at e
      ·simp only[sJ,pJ] at e;rw[← e.2];exact Keep.refl _
      ·simp at e
     split at e
     ·split at e
      ·split at e
       ·rename_i hst
        simp only[sJ,pJ] at e;rw[← e.2];exact vF hst
       ·simp at e
      ·simp at e
     split at e
     ·split at e
      ·simp only[sJ,pJ] at e;rw[← e.2];exact Keep.alloc _ _
      ·split at e
       ·simp only[sJ,pJ] at e;rw[← e.2];exact Keep.alloc _ _
       ·split at e
        ·split at e
         ·simp only[sJ,pJ] at e;rw[← e.2];exact(Keep.kill _ _).trans (Keep.alloc _ _)
         ·simp at e
        ·simp at e
       ·simp at e
      ·simp at e
     ·simp at e
    ·simp at e
   ·simp at e
  ·simp at e
 ·simp at e
theorem zds(CK:wa call){op:Op}{v:Value}{h':Heap}(e:opE env call h tm op=some (v,h')):Keep h h':=by
 unfold opE at e
 split at e
 ·split at e
  ·split at e
   ·rename_i hst
    simp only[sJ,pJ] at e;rw[← e.2]
    unfold ym at hst
    split at hst
    ·split at hst
     ·exact vF hst
     ·simp at hst
    ·simp at hst
   ·simp at e
  ·simp at e
 ·split at e
  ·split at e
   ·rename_i hg _
    split at e
    ·split at e
     ·simp only[sJ,pJ] at e;rw[← e.2];exact Keep.put _ _ _ hg
     ·simp at e
    ·simp at e
   ·simp at e
  ·simp at e
 ·split at e
  ·split at e
   ·rename_i hg
    split at e
    ·simp only[sJ,pJ] at e;rw[← e.2];exact Keep.put _ _ _ hg
    ·simp only[sJ,pJ] at e;rw[← e.2];exact Keep.refl _
   ·simp at e
  ·simp at e
 ·split at e
  ·split at e
   ·exact CK _ _ _ _ _ e
   ·split at e
    ·rename_i x _
     exact x.keep _ _ _ _ e
    ·simp at e
  ·simp at e
 ·split at e
  ·exact zhB e
  ·simp at e
 ·split at e
  ·unfold zfZ at e
   split at e
   ·split at e
    ·split at e
     ·simp only at e
      split at e
      ·split at e
       ·simp only[sJ,pJ] at e;rw[← e.2];exact Keep.refl _
       ·simp only[sJ,pJ] at e;rw[← e.2];exact Keep.refl _
       ·split at e
        ·rename_i hst
         simp only[sJ,pJ] at e;rw[← e.2];exact vF hst
        ·simp at e
      ·simp at e
     ·simp at e
    ·simp at e
   ·simp at e
  ·simp at e
 ·simp at e
theorem wi.put(TR:wi μ tm tmps){d:Nat}{v v':Value}(r:VRel μ v v')(hd:d < tmps.size):wi μ (tm.put d v) (tmps.setIfInBounds d v'):=by
 refine⟨TR.1,fun t=>?_⟩
 unfold rdT
 rw[T.get_put]
 by_cases e:t=d
 ·subst e
  rw[if_pos rfl]
  simp[Array.getD,hd]
  exact r
 ·rw[if_neg e]
  have:(tmps.setIfInBounds d v').getD t undef=tmps.getD t undef:=by
   simp only[Array.getD_eq_getD_getElem?,Array.getElem?_setIfInBounds]
   rw[if_neg (fun h=>e h.symm)]
  rw[this]
  exact TR.2 t
theorem zcB(TR:wi μ tm tmps){nt:Nat}{dst:Option Tmp}{v v':Value}{tm':T Value}(r:VRel μ v v')(hn:nt≤tmps.size){ds:List Deferred}(e:jB nt dst v tm=some tm'):
  wi μ tm' (Act.put ⟨tmps,ds⟩ dst v').tmps∧(Act.put ⟨tmps,ds⟩ dst v').tmps.size=tmps.size∧(Act.put ⟨tmps,ds⟩ dst v').defers=ds:=by
 unfold jB at e
 split at e
 ·simp only[sJ] at e;subst e
  exact⟨TR,rfl,rfl⟩
 ·rename_i d
  split at e
  ·rename_i hd
   rw[Nat.blt_eq] at hd
   simp only[sJ] at e;subst e
   exact⟨TR.put r (by omega),by simp[Act.put],rfl⟩
  ·simp at e
theorem zor(TR:wi μ tm tmps)(ops:Array Oper)(j:Nat):um ops.toList tm j=yielded ops tmps j:=by
 unfold um yielded
 rw[Array.getElem?_toList]
 cases ho:ops[j]? with
 |none=>rfl
 |some o=>
  simp only[Option.bind_some]
  cases hd:o.dst with
  |none=>rfl
  |some d=>
   simp only[Option.bind_some]
   have r:=TR.2 d
   cases ht:tmps[d]? with
   |none=>
    rw[Array.getD_eq_getD_getElem?,ht] at r
    simp only[Option.getD_none] at r
    generalize rdT tm d=x at r
    cases r
    rfl
   |some y=>
    rw[Array.getD_eq_getD_getElem?,ht] at r
    simp only[Option.getD_some] at r
    generalize rdT tm d=x at r
    cases r <;>rfl
theorem ze5(TR:wi μ tm tmps)(ops:Array Oper)(o:Oper):wM ops.toList tm o=Region.wanted o (yielded ops tmps):=by
 unfold wM Region.wanted
 cases o.guard with
 |none=>rfl
 |some g=>
  obtain⟨j,want⟩:=g
  simp only
  rw[zor TR]
  cases yielded ops tmps j with
  |none=>simp
  |some b=>simp
theorem zcP{a:Act}(h:a.defers=[]):a=⟨a.tmps,[]⟩:=by
 cases a;simp at h;subst h;rfl
theorem op1_ok(E:EnvOK P env)(C:js P call){nt:Nat}{s s':St}{o:Oper}(e:op1 env call nt s o=some s')(R:Rep μ s.h w)(TR:wi μ s.tm tmps)(hn:nt≤tmps.size)
  {next:Act→World→Prop} {Q:Exit→Act→World→Prop} (hk:∀ u ν tmps',Go1 μ s.h w ν s'.h u→wi ν s'.tm tmps'→tmps'.size=tmps.size→next ⟨tmps',[]⟩ u):o.wp P ⟨tmps,[]⟩ w next Q:=by
 unfold op1 at e
 split at e
 ·rename_i v hq
  split at e
  ·rename_i tm' hp
   simp only[sJ] at e;subst e
   obtain⟨v',hr,rv⟩:=zgA (ds:=[]) E R TR hq
   obtain⟨t1,t2,t3⟩:=zcB TR rv hn (ds:=[]) hp
   refine jk hr ?_
   have:=hk w μ _ (Go1.refl R) t1 t2
   have e2:(Act.put ⟨tmps,[]⟩ o.dst v')=⟨(Act.put ⟨tmps,[]⟩ o.dst v').tmps,[]⟩:=zcP t3
   rw[e2];exact this
  ·simp at e
 ·split at e
  ·rename_i mk obj ha
   split at e
   ·rename_i tm' hp
    simp only[sJ] at e;subst e
    obtain⟨v',u,p,hr,hno⟩:=zhm (w:=w) (ds:=[]) E TR ha
    obtain⟨g,rv⟩:=hno.go R
    obtain⟨t1,t2,t3⟩:=zcB (TR.mono g.ext) rv hn (ds:=[]) hp
    refine jk hr ?_
    have:=hk u _ _ g t1 t2
    have e2:(Act.put ⟨tmps,[]⟩ o.dst v')=⟨(Act.put ⟨tmps,[]⟩ o.dst v').tmps,[]⟩:=zcP t3
    rw[e2];exact this
   ·simp at e
  ·split at e
   ·rename_i v h' he
    split at e
    ·rename_i tm' hp
     simp only[sJ] at e;subst e
     refine zl3 E R TR C (ds:=[]) he (fun u ν v' g rv=>?_)
     obtain⟨t1,t2,t3⟩:=zcB (TR.mono g.ext) rv hn (ds:=[]) hp
     have:=hk u ν _ g t1 t2
     have e2:(Act.put ⟨tmps,[]⟩ o.dst v')=⟨(Act.put ⟨tmps,[]⟩ o.dst v').tmps,[]⟩:=zcP t3
     rw[e2];exact this
    ·simp at e
   ·simp at e
theorem ztG(E:EnvOK P env)(C:js P call){nt:Nat}{ops:Array Oper}{Q:Exit→Act→World→Prop}:∀ (l:List Oper) (k:Nat),ops.toList.drop k=l→∀ (s s':St) (μ:Loc) (w:World) (tmps:Array Value),
  zaa env call nt ops.toList l s=some s'→Rep μ s.h w→wi μ s.tm tmps→nt≤tmps.size→
  (∀ u ν tmps',Go1 μ s.h w ν s'.h u→wi ν s'.tm tmps'→tmps'.size=tmps.size→Q .normal ⟨tmps',[]⟩ u)→wpOps P ops Q (List.range' k l.length) ⟨tmps,[]⟩ w:=by
 intro l
 induction l with
 |nil=>
  intro k hd s s' μ w tmps e R TR hn hk
  simp only[zaa,sJ] at e;subst e
  exact hk w μ tmps (Go1.refl R) TR rfl
 |cons o l ih=>
  intro k hd s s' μ w tmps e R TR hn hk
  have ho:ops[k]? =some o:=by
   have:=congrArg (fun l=>l[0]?) hd
   simpa using this
  have hd':ops.toList.drop (k+1)=l:=by
   have:=congrArg List.tail hd
   simpa using this
  simp only[lC,List.range'_succ,wpOps,ho]
  simp only[zaa] at e
  rw[ze5 TR] at e
  split at e
  ·rename_i hw
   rw[if_pos hw]
   split at e
   ·rename_i s1 h1
    left
    refine op1_ok E C h1 R TR hn (fun u ν tmps' g t hs=>?_)
    exact ih (k+1) hd' s1 s' ν u tmps' e g.rep t (by omega) (fun u2 ν2 tmps2 g2 t2 hs2=>hk u2 ν2 tmps2 (g.trans g2) t2 (by omega))
   ·simp at e
  ·rename_i hw
   rw[if_neg hw]
   split at e
   ·rename_i tm' hp
    obtain⟨t1,t2,t3⟩:=zcB TR VRel.undef hn (ds:=[]) hp
    have e2:(Act.put ⟨tmps,[]⟩ o.dst undef)=⟨(Act.put ⟨tmps,[]⟩ o.dst undef).tmps,[]⟩:=zcP t3
    rw[e2]
    exact ih (k+1) hd' ⟨tm',s.h⟩ s' μ w _ e R t1 (by omega) (fun u2 ν2 tmps2 g2 tt hs2=>hk u2 ν2 tmps2 g2 tt (by omega))
   ·simp at e
end
def zeX:Ex→Exit
 | .normal=>.normal
 | .exit i=>.exit i
 | .ret=>.ret
abbrev wQ:=FuncId→Vs→Heap→Option (Value×Heap)
abbrev zel:=wQ→Nat→List Oper→St→Option St
def zaw(P:Program)(draw:zel):Prop:=
 ∀ call,js P call→wa call→∀ nt id (ops:Array Oper) s s',draw call nt ops.toList s=some s'→∀ (μ:Loc) (w:World) (tmps:Array Value),Rep μ s.h w→wi μ s.tm tmps→nt≤tmps.size→
  ∀ Q:Exit→Act→World→Prop,(∀ u ν tmps',Go1 μ s.h w ν s'.h u→wi ν s'.tm tmps'→tmps'.size=tmps.size→Q .normal ⟨tmps',[]⟩ u)→(Code.region id ops true).wp P Q ⟨tmps,[]⟩ w
def uX(draw:zel):Prop:=∀ call,wa call→∀ nt ops s s',draw call nt ops s=some s'→Keep s.h s'.h
section
variable {P:Program} {env:Env} {call:wQ} {draw:zel}
def zmo(P:Program)(nt:Nat)(c:Code)(f:St→Option (Ex×St)):Prop:=
 ∀ (s:St) (x:Ex) (s':St),f s=some (x,s')→∀ (μ:Loc) (w:World) (tmps:Array Value),Rep μ s.h w→wi μ s.tm tmps→nt≤tmps.size→
  ∀ Q:Exit→Act→World→Prop,(∀ u ν tmps',Go1 μ s.h w ν s'.h u→wi ν s'.tm tmps'→tmps'.size=tmps.size→Q (zeX x) ⟨tmps',[]⟩ u)→c.wp P Q ⟨tmps,[]⟩ w
theorem zrj{nt:Nat}{c:Code}{f:St→Option (Ex×St)}(hf:zmo P nt c f):∀ (n:Nat) (s:St) (x:Ex) (s':St),jN f n s=some (x,s')→∀ (μ:Loc) (w:World) (tmps:Array Value),Rep μ s.h w→wi μ s.tm tmps→nt≤tmps.size→
  ∀ Q:Exit→Act→World→Prop,(∀ u ν tmps',Go1 μ s.h w ν s'.h u→wi ν s'.tm tmps'→tmps'.size=tmps.size→Q (zeX x) ⟨tmps',[]⟩ u)→Code.rounds P c Q n ⟨tmps,[]⟩ w:=by
 intro n
 induction n with
 |zero=>intro s x s' e;simp[jN] at e
 |succ n ih=>
  intro s x s' e μ w tmps R TR hn Q hQ
  rw[rounds_succ]
  simp only[jN] at e
  split at e
  ·rename_i s1 h1
   refine hf s .normal s1 h1 μ w tmps R TR hn _ (fun u ν tmps' g t hs=>?_)
   exact ih s1 x s' e ν u tmps' g.rep t (by omega) Q (fun u2 ν2 tmps2 g2 t2 hs2=>hQ u2 ν2 tmps2 (g.trans g2) t2 (by omega))
  ·rename_i hne
   refine hf s x s' e μ w tmps R TR hn _ (fun u ν tmps' g t hs=>?_)
   have:=hQ u ν tmps' g t hs
   cases x with
   |normal=>exact absurd e (hne s')
   |exit i=>exact this
   |ret=>exact this
theorem zrX(E:EnvOK P env)(C:js P call)(CK:wa call)(D:zaw P draw)(nt L:Nat):∀ c:Code,zmo P nt c (ecA env call nt (draw call nt) L c):=by
 intro c
 induction c with
 |skip=>
  intro s x s' e μ w tmps R TR hn Q hQ
  simp only[ecA,sJ,pJ] at e;obtain⟨rfl,rfl⟩:=e
  exact wp_skip (hQ w μ tmps (Go1.refl R) TR rfl)
 |label l=>
  intro s x s' e μ w tmps R TR hn Q hQ
  simp only[ecA,sJ,pJ] at e;obtain⟨rfl,rfl⟩:=e
  exact wp_label (hQ w μ tmps (Go1.refl R) TR rfl)
 |region id ops dr=>
  intro s x s' e μ w tmps R TR hn Q hQ
  simp only[ecA] at e
  cases dr with
  |true=>
   simp only[cond_true] at e
   split at e
   ·rename_i s1 h1
    simp only[sJ,pJ] at e;obtain⟨rfl,rfl⟩:=e
    exact D call C CK nt id ops s s1 h1 μ w tmps R TR hn Q hQ
   ·simp at e
  |false=>
   simp only[cond_false] at e
   split at e
   ·rename_i s1 h1
    simp only[sJ,pJ] at e;obtain⟨rfl,rfl⟩:=e
    refine wp_region ?_
    rw[List.range_eq_range']
    have:=ztG E C (Q:=Q) ops.toList 0 rfl s s1 μ w tmps h1 R TR hn hQ
    simpa using this
   ·simp at e
 |seq a b iha ihb=>
  intro s x s' e μ w tmps R TR hn Q hQ
  simp only[ecA] at e
  refine wp_seq ?_
  split at e
  ·rename_i s1 h1
   refine iha s .normal s1 h1 μ w tmps R TR hn _ (fun u ν tmps' g t hs=>?_)
   exact ihb s1 x s' e ν u tmps' g.rep t (by omega) Q (fun u2 ν2 tmps2 g2 t2 hs2=>hQ u2 ν2 tmps2 (g.trans g2) t2 (by omega))
  ·rename_i hne
   refine iha s x s' e μ w tmps R TR hn _ (fun u ν tmps' g t hs=>?_)
   have:=hQ u ν tmps' g t hs
   cases x with
   |normal=>exact absurd e (hne s')
   |exit i=>exact this
   |ret=>exact this
 |cond c a b iha ihb=>
  intro s x s' e μ w tmps R TR hn Q hQ
  simp only[ecA] at e
  split at e
  ·rename_i t ht
   have rc:=zQ (ds:=[]) TR ht
   have hc:Act.eval ⟨tmps,[]⟩ c= .bool t:=by
    generalize Act.eval ⟨tmps,[]⟩ c=v at rc
    cases rc;rfl
   cases t with
   |true=>exact wp_cond_true hc (iha s x s' e μ w tmps R TR hn Q hQ)
   |false=>exact wp_cond_false hc (ihb s x s' e μ w tmps R TR hn Q hQ)
  ·simp at e
 |block id b ih=>
  intro s x s' e μ w tmps R TR hn Q hQ
  simp only[ecA] at e
  refine wp_block ?_
  split at e
  ·rename_i i s1 h1
   split at e
   ·rename_i hi
    simp only[sJ,pJ] at e;obtain⟨rfl,rfl⟩:=e
    refine ih s (.exit i) s1 h1 μ w tmps R TR hn _ (fun u ν tmps' g t hs=>?_)
    simp only[zeX,Exit.inBlock,hi,if_true]
    exact hQ u ν tmps' g t hs
   ·rename_i hi
    simp only[sJ,pJ] at e;obtain⟨rfl,rfl⟩:=e
    refine ih s (.exit i) s1 h1 μ w tmps R TR hn _ (fun u ν tmps' g t hs=>?_)
    simp only[zeX,Exit.inBlock,hi,if_false]
    exact hQ u ν tmps' g t hs
  ·rename_i hne
   refine ih s x s' e μ w tmps R TR hn _ (fun u ν tmps' g t hs=>?_)
   have:=hQ u ν tmps' g t hs
   cases x with
   |normal=>exact this
   |exit i=>exact absurd e (hne i s')
   |ret=>exact this
 |loop b ih=>
  intro s x s' e μ w tmps R TR hn Q hQ
  exact wp_loop_rounds L (zrj ih L s x s' e μ w tmps R TR hn Q hQ)
 |exit id=>
  intro s x s' e μ w tmps R TR hn Q hQ
  simp only[ecA,sJ,pJ] at e;obtain⟨rfl,rfl⟩:=e
  exact wp_exit (hQ w μ tmps (Go1.refl R) TR rfl)
 |ret=>
  intro s x s' e μ w tmps R TR hn Q hQ
  simp only[ecA,sJ,pJ] at e;obtain⟨rfl,rfl⟩:=e
  exact wp_ret (hQ w μ tmps (Go1.refl R) TR rfl)
 |_=>
  intro s x s' e
  simp[ecA] at e
/-! The memory's numbers. -/
theorem znK(CK:wa call){nt:Nat}{s s':St}{o:Oper}(e:op1 env call nt s o=some s'):Keep s.h s'.h:=by
 unfold op1 at e
 split at e
 ·split at e
  ·simp only[sJ] at e;subst e;exact Keep.refl _
  ·simp at e
 ·split at e
  ·split at e
   ·simp only[sJ] at e;subst e;exact Keep.alloc _ _
   ·simp at e
  ·split at e
   ·rename_i he
    split at e
    ·simp only[sJ] at e;subst e;exact zds CK he
    ·simp at e
   ·simp at e
theorem znH(CK:wa call){nt:Nat}{ops:List Oper}:∀ (l:List Oper) (s s':St),zaa env call nt ops l s=some s'→Keep s.h s'.h:=by
 intro l
 induction l with
 |nil=>intro s s' e;simp only[zaa,sJ] at e;subst e;exact Keep.refl _
 |cons o l ih=>
  intro s s' e
  simp only[zaa] at e
  split at e
  ·split at e
   ·rename_i h1
    exact(znK CK h1).trans (ih _ _ e)
   ·simp at e
  ·split at e
   ·rename_i tm' _;exact ih ⟨tm',s.h⟩ s' e
   ·simp at e
theorem zlI{f:St→Option (Ex×St)}(hf:∀ s x s',f s=some (x,s')→Keep s.h s'.h):∀ n s x s',jN f n s=some (x,s')→Keep s.h s'.h:=by
 intro n
 induction n with
 |zero=>intro s x s' e;simp[jN] at e
 |succ n ih=>
  intro s x s' e
  simp only[jN] at e
  split at e
  ·rename_i s1 h1;exact(hf _ _ _ h1).trans (ih _ _ _ e)
  ·exact hf _ _ _ e
theorem zmc(CK:wa call)(DK:uX draw)(nt L:Nat):∀ (c:Code) s x s',ecA env call nt (draw call nt) L c s=some (x,s')→Keep s.h s'.h:=by
 intro c
 induction c with
 |region id ops dr=>
  intro s x s' e
  simp only[ecA] at e
  split at e
  ·rename_i s1 h1
   simp only[sJ,pJ] at e;obtain⟨rfl,rfl⟩:=e
   cases dr with
   |true=>exact DK call CK _ _ _ _ h1
   |false=>exact znH CK _ _ _ h1
  ·simp at e
 |seq a b iha ihb=>
  intro s x s' e
  simp only[ecA] at e
  split at e
  ·rename_i s1 h1;exact(iha _ _ _ h1).trans (ihb _ _ _ e)
  ·exact iha _ _ _ e
 |cond c a b iha ihb=>
  intro s x s' e
  simp only[ecA] at e
  split at e
  ·rename_i t ht
   cases t with
   |true=>exact iha _ _ _ e
   |false=>exact ihb _ _ _ e
  ·simp at e
 |block id b ih=>
  intro s x s' e
  simp only[ecA] at e
  split at e
  ·rename_i h1
   split at e <;>(simp only[sJ,pJ] at e;obtain⟨_,rfl⟩:=e;exact ih _ _ _ h1)
  ·exact ih _ _ _ e
 |loop b ih=>intro s x s' e;exact zlI ih L s x s' e
 |skip=>intro s x s' e;simp only[ecA,sJ,pJ] at e;obtain⟨_,rfl⟩:=e;exact Keep.refl _
 |label l=>intro s x s' e;simp only[ecA,sJ,pJ] at e;obtain⟨_,rfl⟩:=e;exact Keep.refl _
 |exit l=>intro s x s' e;simp only[ecA,sJ,pJ] at e;obtain⟨_,rfl⟩:=e;exact Keep.refl _
 |ret=>intro s x s' e;simp only[ecA,sJ,pJ] at e;obtain⟨_,rfl⟩:=e;exact Keep.refl _
 |_=>intro s x s' e;simp[ecA] at e
end
section
variable {P:Program} {env:Env} {call:wQ} {draw:zel} {μ:Loc} {h:Heap} {w:World} {tm:T Value} {tmps:Array Value}
theorem zkZ(E:EnvOK P env)(R:Rep μ h w)(TR:wi μ tm tmps){r:ResultVar}{v:Value}(e:za3 env h tm r=some v):
  ∃ v',(match r with| .tmp t=>pure (tmps.getD t undef)| .cell a t=>do loadVar t (← asAddr (tmps.getD a undef)):Sem Value).run P w= .ok v' w∧VRel μ v v':=by
 cases r with
 |tmp t=>
  simp only[za3,sJ] at e;subst e
  exact⟨_,rfl,TR.2 t⟩
 |cell a t=>
  simp only[za3] at e
  split at e
  ·rename_i ad ha
   have ra:=TR.2 a
   rw[ha] at ra
   obtain⟨v',hr,rv⟩:=zgT (P:=P) E R ra e
   refine⟨v',?_,rv⟩
   simp only
   generalize tmps.getD a undef=x at ra hr ⊢
   cases ra with
   |ptr b o p hp=>
    simp only[Instr.loadAt,Instr.sureAddr,Sem.run_bind,Sem.run_pure,Result.andThen_ok] at hr
    simp only[asAddr,Sem.run_bind,Sem.run_pure,Result.andThen_ok,hr]
  ·simp at e
theorem zk0(E:EnvOK P env)(R:Rep μ h w)(TR:wi μ tm tmps):∀ (l:List ResultVar) (vs:Vs),vX env h tm l=some vs→
  ∃ vs',(l.mapM fun r=>(match r with| .tmp t=>pure (tmps.getD t undef)| .cell a t=>do loadVar t (← asAddr (tmps.getD a undef)):Sem Value)).run P w= .ok vs' w∧zh μ vs vs':=by
 intro l
 induction l with
 |nil=>intro vs e;simp only[vX,sJ] at e;subst e;exact⟨[],by simp,.nil⟩
 |cons r l ih=>
  intro vs e
  simp only[vX] at e
  split at e
  ·rename_i v us hv hu
   simp only[sJ] at e;subst e
   obtain⟨v',h1,r1⟩:=zkZ (P:=P) E R TR hv
   obtain⟨vs',h2,r2⟩:=ih us hu
   refine⟨v'::vs',?_,.cons r1 r2⟩
   rw[List.mapM_cons]
   simp only[Sem.run_bind,h1,h2,Result.andThen_ok,Sem.run_pure]
  ·simp at e
theorem zje(E:EnvOK P env){fn:Func}{s:St}{v:Value}(R:Rep μ s.h w)(TR:wi μ s.tm tmps)(e:uH env fn s=some v):
  ∃ v',(results fn tmps).run P w= .ok v' w∧VRel μ v v':=by
 unfold uH at e
 have key:∀ vs,vX env s.h s.tm fn.results.toList=some vs→∃ vs',(results fn tmps).run P w= .ok (if h:vs'.length=1 then vs'[0] else .tuple ⟨vs'⟩) w∧zh μ vs vs':=by
  intro vs hvs
  obtain⟨vs',h1,r1⟩:=zk0 (P:=P) E R TR fn.results.toList vs hvs
  refine⟨vs',?_,r1⟩
  unfold results
  rw[Array.mapM_eq_mapM_toList]
  simp only[Sem.run_bind,Sem.run_map]
  refine(congrArg (fun r=>Result.andThen (Result.andThen r _) _) h1).trans ?_
  simp only[Result.andThen_ok,Sem.run_pure]
  congr 1
 split at e
 ·rename_i u hu
  simp only[sJ] at e;subst e
  obtain⟨vs',h1,r1⟩:=key _ hu
  rcases r1.cases with⟨h,_⟩|⟨a,a',m,m',h,h',ra,rm⟩
  ·simp at h
  ·simp only[List.cons.injEq] at h;obtain⟨rfl,rfl⟩:=h
   rcases rm.cases with⟨_,h3⟩|⟨_,_,_,_,h,_⟩
   ·subst h3;subst h'
    exact⟨a',by simpa using h1,ra⟩
   ·simp at h
 ·rename_i us hne hu
  simp only[sJ] at e;subst e
  obtain⟨vs',h1,r1⟩:=key _ hu
  refine⟨.tuple ⟨vs'⟩,?_,zh.tuple.2 r1⟩
  rw[h1,dif_neg]
  intro hl
  have:=r1.1
  rw[hl] at this
  obtain⟨x,rfl⟩:=List.length_eq_one_iff.1 this
  exact hne x rfl
 ·simp at e
theorem VRel.back{μ ν:Loc}{v x y:Value}(a:VRel μ v x)(hle:μ.le ν)(b:VRel ν v y):VRel μ v y:=by
 induction a generalizing y with
 |bool=>cases b;exact .bool _
 |int=>cases b;exact .int _ _
 |str=>cases b;exact .str _
 |nilp=>cases b;exact .nilp
 |ptr bb o p e=>
  cases b with
  |ptr _ _ q hq=>rw[hle _ _ e] at hq;simp only[sJ] at hq;subst hq;exact .ptr bb o _ e
 |nils=>cases b;exact .nils
 |slice bb o l c c' p e hc=>
  cases b with
  |slice _ _ _ _ c2 q hq hc2=>rw[hle _ _ e] at hq;simp only[sJ] at hq;subst hq;exact .slice bb o l c c2 _ e hc2
 |nilm=>cases b;exact .nilm
 |map bb p e=>
  cases b with
  |map _ q hq=>rw[hle _ _ e] at hq;simp only[sJ] at hq;subst hq;exact .map bb _ e
 |nilf=>cases b;exact .nilf
 |func fn xs xs' ys ys' h1 h2 h3 h4 ih1 ih2=>
  cases b with
  |func _ _ zs _ us g1 g2 g3 g4=>
   refine .func fn xs zs ys us g1 (fun i a c ha hc=>?_) g3 (fun i a c ha hc=>?_)
   ·have hi:i < xs'.size:=by
     have:=Array.getElem?_eq_some_iff.1 ha
     obtain⟨hi,_⟩:=this
     omega
    exact ih1 i a xs'[i] ha (by simp[hi]) (g2 i a c ha hc)
   ·have hi:i < ys'.size:=by
     have:=Array.getElem?_eq_some_iff.1 ha
     obtain⟨hi,_⟩:=this
     omega
    exact ih2 i a ys'[i] ha (by simp[hi]) (g4 i a c ha hc)
 |nili=>cases b;exact .nili
 |iface t v v' _ ih=>cases b with|iface _ _ z hz=>exact .iface t v z (ih hz)
 |agg xs xs' h1 h2 ih=>
  cases b with
  |agg _ zs g1 g2=>
   refine .agg xs zs g1 (fun i a c ha hc=>?_)
   have hi:i < xs'.size:=by
    obtain⟨hi,_⟩:=Array.getElem?_eq_some_iff.1 ha
    omega
   exact ih i a xs'[i] ha (by simp[hi]) (g2 i a c ha hc)
 |tuple xs xs' h1 h2 ih=>
  cases b with
  |tuple _ zs g1 g2=>
   refine .tuple xs zs g1 (fun i a c ha hc=>?_)
   have hi:i < xs'.size:=by
    obtain⟨hi,_⟩:=Array.getElem?_eq_some_iff.1 ha
    omega
   exact ih i a xs'[i] ha (by simp[hi]) (g2 i a c ha hc)
theorem zh.back{μ ν:Loc}{v x y:Vs}(a:zh μ v x)(hle:μ.le ν)(b:zh ν v y):zh μ v y:=by
 refine⟨b.1,fun i p q hp hq=>?_⟩
 obtain⟨p',hp',rp⟩:=a.get hp
 exact rp.back hle (b.2 i p q hp hq)
theorem zh6{μ ν:Loc}{nx:Nat}(hlow:∀ b,b < nx→ν b=μ b){v y:Value}(r:VRel ν v y):∀ d,zM nx d v=true→VRel μ v y:=by
 induction r with
 |bool=>intro d _;exact .bool _
 |int=>intro d _;exact .int _ _
 |str=>intro d _;exact .str _
 |nilp=>intro d _;exact .nilp
 |ptr b o p e=>intro d hd;cases d <;>(simp only[zM,Nat.blt_eq] at hd;exact .ptr b o p (by rw[← hlow b hd];exact e))
 |nils=>intro d _;exact .nils
 |slice b o l c c' p e hc=>intro d hd;cases d <;>(simp only[zM,Nat.blt_eq] at hd;exact .slice b o l c c' p (by rw[← hlow b hd];exact e) hc)
 |nilm=>intro d _;exact .nilm
 |map b p e=>intro d hd;cases d <;>(simp only[zM,Nat.blt_eq] at hd;exact .map b p (by rw[← hlow b hd];exact e))
 |nilf=>intro d _;exact .nilf
 |func=>intro d hd;cases d <;>simp[zM] at hd
 |nili=>intro d _;exact .nili
 |iface t v v' _ ih=>intro d hd;cases d with
  |zero=>simp[zM] at hd
  |succ d=>exact .iface t v v' (ih d (by simpa[zM] using hd))
 |agg xs xs' h1 h2 ih=>intro d hd;cases d with
  |zero=>simp[zM] at hd
  |succ d=>
   refine .agg xs xs' h1 (fun i a c ha hc=>ih i a c ha hc d ?_)
   simp only[zM] at hd
   exact List.all_eq_true.1 hd a (Array.mem_toList_iff.2 (Array.mem_of_getElem? ha))
 |tuple xs xs' h1 h2 ih=>intro d hd;cases d with
  |zero=>simp[zM] at hd
  |succ d=>
   refine .tuple xs xs' h1 (fun i a c ha hc=>ih i a c ha hc d ?_)
   simp only[zM] at hd
   exact List.all_eq_true.1 hd a (Array.mem_toList_iff.2 (Array.mem_of_getElem? ha))
theorem zbz{ν:Loc}{g:Heap}{u:World}(R:Rep μ h w)(G:Go1 μ h w ν g u)(hk:∀ b,b < h.nx→g.get b=h.get b):Go1 μ h w μ h u:=by
 refine⟨μ.le_refl,⟨?_,R.inj,R.fh,fun b p hp=>nU (R.bound b p hp) G.size,R.glob⟩,G.size,fun k hk _=>hk,G.frame,G.os,G.out,G.tape,nL_ _,fun _ _=>rfl⟩
 intro b o hb
 obtain⟨p,hp,ho⟩:=R.live b o hb
 have hb2:g.get b=some o:=by rw[hk b (za hb)];exact hb
 obtain⟨q,hq,ho2⟩:=G.rep.live b o hb2
 rw[G.ext b p hp] at hq;simp only[sJ] at hq;subst hq
 refine⟨p,hp,?_⟩
 cases o with
 |row el cells es ro=>
  obtain⟨arr,fr,a1,a2,a3,a4,a5,a6,a7⟩:=ho2
  obtain⟨_,_,_,_,_,_,_,b6,_⟩:=ho
  exact⟨arr,fr,a1,a2,a3,a4,a5,b6.back G.ext a6,a7⟩
 |map es=>
  obtain⟨e,c,a1,a2,a3,a4⟩:=ho2
  obtain⟨e0,c0,_,b2,b3,_⟩:=ho
  refine⟨e,c,a1,a2,fun i x kv hx hkv=>?_,a4⟩
  obtain⟨hi,_⟩:=Array.getElem?_eq_some_iff.1 hx
  have hi0:i < e0.size:=by omega
  have:=b3 i e0[i] kv (by simp[hi0]) hkv
  have h3:=a3 i x kv hx hkv
  exact⟨this.1.back G.ext h3.1,this.2.back G.ext h3.2⟩
 |siter s pos=>exact ho2
theorem zn4:∀ (l:Vs) (k:Nat) (tm:T Value) (t:Nat),rdT (zas l k tm) t=if k≤t∧t < k+l.length then l.getD (t - k) undef else rdT tm t:=by
 intro l
 induction l with
 |nil=>intro k tm t;simp[zas];intro h1 h2;omega
 |cons v l ih=>
  intro k tm t
  simp only[zas]
  rw[ih]
  by_cases h1:k+1≤t∧t < k+1+l.length
  ·rw[if_pos h1,if_pos (by simp;omega)]
   rw[show t - k=(t - (k+1))+1 by omega]
   simp
  ·rw[if_neg h1]
   by_cases h2:t=k
   ·subst h2
    rw[if_pos (by simp)]
    simp[rdT,T.get_put]
   ·rw[if_neg (by simp;omega)]
    simp[rdT,T.get_put,h2]
def zej(P:Program)(orc:FuncId→Option (Vs→Heap→Option (Value×Heap))):Prop:=
 ∀ f g,orc f=some g→∀ args h v h',g args h=some (v,h')→Keep h h'∧∀ (μ:Loc) (w:World) (args':Vs),Rep μ h w→zh μ args args'→
  Calls P f ⟨args'⟩ w fun e u=>∃ ν v',e= .returned v'∧Go1 μ h w ν h' u∧VRel ν v v'
theorem Rep.wm(R:Rep μ h w)(k:Nat):Rep μ {h with wm:=k} w:=⟨R.live,R.inj,R.fh,R.bound,R.glob⟩
theorem Go1.wm{ν:Loc}{g:Heap}{u:World}{k j:Nat}(G:Go1 μ {h with wm:=k} w ν g u):Go1 μ h w ν {g with wm:=j} u:=
 ⟨G.ext,G.rep.wm j,G.size,G.own,G.frame,G.os,G.out,G.tape,G.nx,G.low⟩
theorem body_ok(E:EnvOK P env)(C:js P call)(CK:wa call)(D:zaw P draw)(DK:uX draw){L:Nat}{f:FuncId}{fn:Func}{c:Code}(hf:P.funcs[f]? =some fn)(hc:fn.body=some c){args:Vs}{v:Value}{h':Heap}
  (hlen:args.length≤fn.ntmps) (e:zf0 env call (draw call) L fn c args h=some (v,h')):
  Keep h h'∧∀ (μ:Loc) (w:World) (args':Vs),Rep μ h w→zh μ args args'→Calls P f ⟨args'⟩ w fun e u=>∃ ν v',e= .returned v'∧Go1 μ h w ν h' u∧VRel ν v v':=by
 have main:∀ x s,ecA env call fn.ntmps (draw call fn.ntmps) L c ⟨zas args 0 .nil,{h with wm:=h.nx}⟩=some (x,s)→(zeX x= .normal∨zeX x= .ret)→uH env fn s=some v→
   (if Nat.ble h.nx s.h.wm && zM h.nx 5 v then some (v,h) else some (v,{s.h with wm:=min h.wm s.h.wm}))=some (v,h')→
   Keep h h'∧∀ (μ:Loc) (w:World) (args':Vs),Rep μ h w→zh μ args args'→Calls P f ⟨args'⟩ w fun e u=>∃ ν v',e= .returned v'∧Go1 μ h w ν h' u∧VRel ν v v':=by
  intro x s hec hx hres hfin
  have K:=zmc CK DK fn.ntmps L c _ _ _ hec
  have hk:h.nx≤s.h.wm→∀ b,b < h.nx→s.h.get b=h.get b:=fun hw b hb=>K.get b hb (nU hb hw)
  refine⟨?_,fun μ w args' R ra=>?_⟩
  ·split at hfin
   ·simp only[sJ,pJ,true_and] at hfin;subst hfin;exact Keep.refl _
   ·simp only[sJ,pJ,true_and] at hfin;subst hfin
    refine⟨K.nx,by simp;omega,fun b hb hw=>?_,fun b hb e=>K.no b hb e⟩
    have hw':b < min h.wm s.h.wm:=hw
    exact K.get b hb (by omega)
  ·refine calls_of_wp hf hc ?_
   have hal:args.length=args'.length:=ra.1
   have TR0:wi μ (zas args 0 .nil) ((⟨args'⟩:Array Value)++Array.replicate (fn.ntmps - args'.length) undef):=by
    refine⟨R.glob,fun(t:Nat)=>?_⟩
    rw[zn4]
    by_cases ht:t < args.length
    ·rw[if_pos ⟨Nat.zero_le _,by omega⟩]
     have:((⟨args'⟩:Array Value)++Array.replicate (fn.ntmps - args'.length) undef).getD t undef=args'.getD t undef:=by
      simp only[Array.getD_eq_getD_getElem?,List.getD_eq_getElem?_getD]
      rw[Array.getElem?_append_left (by simp;omega)]
      simp
     rw[this]
     simpa using zh.getD ra VRel.undef t
    ·rw[if_neg (by omega)]
     have:((⟨args'⟩:Array Value)++Array.replicate (fn.ntmps - args'.length) undef).getD t undef=undef:=by
      simp only[Array.getD_eq_getD_getElem?]
      rw[Array.getElem?_append_right (by simp;omega)]
      simp only[Array.getElem?_replicate]
      split <;>rfl
     rw[this]
     exact VRel.undef
   have hsz:fn.ntmps≤((⟨args'⟩:Array Value)++Array.replicate (fn.ntmps - args'.length) undef).size:=by simp;omega
   refine zrX E C CK D fn.ntmps L c _ x s hec μ w _ (R.wm _) TR0 hsz _ (fun u ν tmps' g t hs=>?_)
   obtain⟨v',hr,rv⟩:=zje (P:=P) E g.rep t hres
   have post:∃ ν2 v2,Ending.returned v'= .returned v2∧Go1 μ h w ν2 h' u∧VRel ν2 v v2:=by
    split at hfin
    ·rename_i hcnd
     simp only[bA,Nat.ble_eq] at hcnd
     simp only[sJ,pJ,true_and] at hfin;subst hfin
     have g0:Go1 μ h w ν {s.h with wm:=s.h.wm} u:=g.wm
     have gr:=zbz R g0 (hk hcnd.1)
     exact⟨μ,v',rfl,gr,zh6 g.low rv 5 hcnd.2⟩
    ·simp only[sJ,pJ,true_and] at hfin;subst hfin
     exact⟨ν,v',rfl,g.wm,rv⟩
   rcases hx with hx|hx <;>rw[hx] <;>exact⟨rfl,v',hr,post⟩
 unfold zf0 at e
 split at e
 ·rename_i s hec
  split at e
  ·rename_i v2 hres
   have hv:v2=v:=by
    split at e <;>(simp only[sJ,pJ] at e;exact e.1)
   subst hv
   exact main .normal s hec (.inl rfl) hres e
  ·simp at e
 ·rename_i s hec
  split at e
  ·rename_i v2 hres
   have hv:v2=v:=by
    split at e <;>(simp only[sJ,pJ] at e;exact e.1)
   subst hv
   exact main .ret s hec (.inr rfl) hres e
  ·simp at e
 ·simp at e
theorem zgt(E:EnvOK P env)(D:zaw P draw)(DK:uX draw){orc:FuncId→Option (Vs→Heap→Option (Value×Heap))}(O:zej P orc)(L:Nat):∀ n,js P (zB env orc draw L n)∧wa (zB env orc draw L n):=by
 have step:∀ n f args h v h',js P (zB env orc draw L n)∧wa (zB env orc draw L n)→zB env orc draw L (n+1) f args h=some (v,h')→
   Keep h h'∧∀ (μ:Loc) (w:World) (args':Vs),Rep μ h w→zh μ args args'→Calls P f ⟨args'⟩ w fun e u=>∃ ν v',e= .returned v'∧Go1 μ h w ν h' u∧VRel ν v v':=by
  intro n f args h v h' ih e
  simp only[zB] at e
  split at e
  ·rename_i g hg
   exact O f g hg args h v h' e
  ·split at e
   ·rename_i fn hfn
    split at e
    ·rename_i c hc
     split at e
     ·rename_i hl
      exact body_ok E ih.1 ih.2 D DK (E.fn f fn hfn).1 hc (by simpa using hl) e
     ·simp at e
    ·simp at e
   ·simp at e
 intro n
 induction n with
 |zero=>exact⟨fun f args h v h' e=>by simp[zB] at e,fun f args h v h' e=>by simp[zB] at e⟩
 |succ n ih=>exact⟨fun f args h v h' e=>(step n f args h v h' ih e).2,fun f args h v h' e=>(step n f args h v h' ih e).1⟩
end
def veq:Nat→Value→Value→Bool
 |_,.bool a,.bool b=>a==b
 |_,.int j a,.int k b=>decide (j=k) && decide (a=b)
 |_,.string a,.string b=>decide (a.data.toList=b.data.toList)
 |_,.pointer none,.pointer none=>true
 |_,.pointer (some a),.pointer (some b)=>decide (a=b)
 |_,.slice none l c,.slice none l' c'=>decide (l=l') && decide (c=c')
 |_,.slice (some a) l c,.slice (some b) l' c'=>decide (a=b) && decide (l=l') && decide (c=c')
 |_,.nilIface,.nilIface=>true
 |_,.nilFunc,.nilFunc=>true
 |_,.map a,.map b=>decide (a=b)
 |d+1,.iface t a,.iface u b=>decide (t=u) && veq d a b
 |d+1,.agg a,.agg b=>veqs d a.toList b.toList
 |_,_,_=>false
where veqs (d:Nat):Vs→Vs→Bool
 |[],[]=>true
 |x::l,y::m=>veq d x y && veqs d l m
 |_,_=>false
structure Rec where
 o:Oper
 anc:Nat
 want:Bool
 kd:Nat
 v:Value
 id:Nat
 obj:AObj
 tm:T Value
structure Eff where
 i:Nat
 pre:Heap
 post:Heap
 born:Nat
def jc(m k:Nat):Bool:=m.testBit k
def wI(recs:List Rec)(es:List Edge):Nat:=
 es.foldl (fun s e=>if Region.binds .any e then s ||| 2 ^ e.on ||| (match recs[e.on]? with|some r=>r.anc|none=>0) else s) 0
def Rec.isA(r:Rec):Bool:=r.want && Nat.beq r.kd 1
def wv(mask born:Nat):List Rec→Nat→Heap→Heap
 |[],_,h=>h
 |r::l,k,h=>wv mask born l (k+1) (if r.isA && jc mask k && !jc born k then h.put r.id r.obj else h)
def yK(mask born:Nat):Nat:=born ||| mask
structure DS where
 recs:List Rec
 tm:T Value
 cur:Heap
 born:Nat
 traj:List Eff
 na:Nat
def zd:Nat→Heap→Heap
 |0,h=>h
 |n+1,h=>zd n {t:=h.t.drop h.nx,nx:=h.nx+1,wm:=h.wm}
def wt(env:Env):List Oper→Nat
 |[]=>0
 |o::l=>(if Nat.beq (qH env o.op) 1 then 1 else 0)+wt env l
section
variable (env:Env) (call:FuncId→Vs→Heap→Option (Value×Heap)) (nt:Nat) (ops:List Oper)
def zae(k:Nat)(o:Oper)(d:DS):Option DS:=
 let anc:=wI d.recs o.after.toList
 let kd:=qH env o.op
 if wM ops d.tm o then
  match kd with
  |0=>match opQ env (wv anc d.born d.recs 0 d.cur) d.tm o.op with
   |some v=>match jB nt o.dst v d.tm with
    |some tm=>some {d with recs:=d.recs++[⟨o,anc,true,0,v,0,.map [],d.tm⟩],tm:=tm}
    |none=>none
   |none=>none
  |1=>match opA env d.tm o.op with
   |some (mk,obj)=>match jB nt o.dst (mk d.na) d.tm with
    |some tm=>some {d with recs:=d.recs++[⟨o,anc,true,1,mk d.na,d.na,obj,d.tm⟩],tm:=tm,na:=d.na+1}
    |none=>none
   |none=>none
  |_=>
   let pre:=wv anc d.born d.recs 0 d.cur
   match opE env call pre d.tm o.op with
   |some (v,post)=>match jB nt o.dst v d.tm with
    |some tm=>some {recs:=d.recs++[⟨o,anc,true,2,v,0,.map [],d.tm⟩],tm:=tm,cur:=post,born:=yK anc d.born,traj:=d.traj++[⟨k,pre,post,yK anc d.born⟩],na:=d.na}
    |none=>none
   |none=>none
 else match jB nt o.dst undef d.tm with
  |some tm=>some {d with recs:=d.recs++[⟨o,anc,false,kd,undef,0,.map [],d.tm⟩],tm:=tm}
  |none=>none
def qL:List Oper→Nat→DS→Option DS
 |[],_,d=>some d
 |o::l,k,d=>match zae env call nt ops k o d with
  |some d'=>qL l (k+1) d'
  |none=>none
def jI:Op→Bool
 | .load _ _| .convert _ _ _| .slice _ _ _ _ _| .lookup .. | .call _=>true
 |_=>false
def qq(o:Oper):List Tmp:=
 (o.op.operands.toList.filterMap fun| .tmp t=>some t|_=>none)++
 (match o.guard with
  |some (j,_)=>match ops[j]? with
   |some g=>g.dst.toList
   |none=>[]
  |none=>[])
def jX(recs:List Rec):Bool:=
 let z:=recs.zipIdx
 z.all fun(r,i)=>(r.o.after.toList.all fun e=>!Region.binds .any e || Nat.blt e.on i) &&
  z.all fun(q,k)=>Nat.beq i k || match q.o.dst with
   |none=>true
   |some d=>r.o.dst !=some d && (!(qq ops r.o).contains d || (Nat.blt k i && jc r.anc k) || (Nat.blt i k && jc q.anc i))
def ju(recs:List Rec):List Eff→Bool
 |a::b::l=>(match recs[b.i]? with|some r=>jc r.anc a.i|none=>false) && ju recs (b::l)
 |_=>true
def quietOK(recs:List Rec)(r:Rec)(i:Nat):List Eff→List Eff→Heap→Nat→Bool
 |done,todo,cur,born=>
  ((done.any fun x=>match recs[x.i]? with|some q=>jc q.anc i|none=>true) || (todo.any fun x=>jc r.anc x.i) ||
   (match opQ env (wv r.anc born (recs.take i) 0 cur) r.tm r.o.op with|some v=>veq 3 v r.v|none=>false)) &&
  (match todo with
   |[]=>true
   |x::todo'=>quietOK recs r i (done++[x]) todo' x.post x.born)
def quietP(recs:List Rec)(r:Rec)(i:Nat):List Eff→List Eff→Heap→Nat→Prop
 |done,todo,cur,born=>
  (((done.any fun x=>match recs[x.i]? with|some q=>jc q.anc i|none=>true) || (todo.any fun x=>jc r.anc x.i))=true∨
   opQ env (wv r.anc born (recs.take i) 0 cur) r.tm r.o.op=some r.v)∧
  (match todo with
   |[]=>True
   |x::todo'=>quietP recs r i (done++[x]) todo' x.post x.born)
def zbk(recs:List Rec)(traj:List Eff)(h0:Heap):Prop:=
 ∀ (i:Nat) (r:Rec),recs[i]? =some r→r.want=true→r.kd=0→jI r.o.op=true→quietP env recs r i [] traj h0 0
noncomputable def qB(s:St):Option St:=
 let n:=wt env ops
 let h0:=zd n s.h
 match qL env call nt ops ops 0 ⟨[],s.tm,h0,0,[],s.h.nx⟩ with
 |some d=>
  bif jX ops d.recs && ju d.recs d.traj && Nat.beq d.na (s.h.nx+n) then
   bif (d.recs.zipIdx.all fun(r,i)=>!r.want || !Nat.beq r.kd 0 || !jI r.o.op || quietOK env d.recs r i [] d.traj h0 0) then
    some ⟨d.tm,wv (2 ^ ops.length - 1) d.born d.recs 0 d.cur⟩
   else
    @ite _ (zbk env d.recs d.traj h0) (Classical.propDecidable _) (some ⟨d.tm,wv (2 ^ ops.length - 1) d.born d.recs 0 d.cur⟩) none
  else none
 |none=>none
end
end Go.PanE
