/-
 Part 9 of the proof of Rows.DumpReadsCardSaid: A region whose order is open: whatever the order, the walk's end.
 Drawn regions are true and leave the memory as they found it where nothing is asked of it.
 The program's own surroundings, asked of the program itself: true of every program.
 The guided machine: it runs over what is not known by guesses, and keeps the facts that the guesses ask for. One operation, and operations in their order.
 No conditions.
-/
import Derived.Test.YtihkphfmnnndfaaGreatDoorT07
import Derived.Test.YtihkphfmnnndfaaGreatDoorT08
namespace Go.PanE
section
variable {P:Program} {env:Env} {call:CallT} {nt:Nat} {ops:Array Oper} {recs:List Rec} {traj:List Eff} {tm0:T Value} {s h0:Heap} {base:Nat} {w0:World} {μ0:Loc} {sz:Nat}
/-- How many are not listed. -/
def left(l:Array Bool):Nat→Nat
 |0=>0
 |n+1=>left l n+(if l.getD n true then 0 else 1)
theorem left_le(l:Array Bool):∀ n,left l n≤n:=by
 intro n
 induction n with
 |zero=>exact Nat.le_refl _
 |succ n ih=>simp only[left];split <;>omega
theorem left_zero(l:Array Bool):∀ n,left l n=0→∀ i,i < n→l.getD i true=true:=by
 intro n
 induction n with
 |zero=>intro _ i hi;omega
 |succ n ih=>
  intro h i hi
  simp only[left] at h
  by_cases e:i=n
  ·subst e
   cases hb:l.getD i true with
   |true=>rfl
   |false=>rw[hb] at h;simp at h
  ·exact ih (by omega) i (by omega)
theorem getD_set(l:Array Bool)(i k:Nat)(hi:i < l.size):(l.setIfInBounds i true).getD k true=if k=i then true else l.getD k true:=by
 rw[Array.getD_eq_getD_getElem?,Array.getD_eq_getD_getElem?,Array.getElem?_setIfInBounds]
 by_cases e:i=k
 ·subst e;simp[hi]
 ·rw[if_neg e,if_neg (fun h=>e h.symm)]
theorem left_set(l:Array Bool)(i:Nat)(hi:i < l.size)(hb:l.getD i true=false):∀ n,(n≤i→left (l.setIfInBounds i true) n=left l n)∧(i < n→left (l.setIfInBounds i true) n+1=left l n):=by
 intro n
 induction n with
 |zero=>exact⟨fun _=>rfl,fun h=>by omega⟩
 |succ n ih=>
  simp only[left,getD_set l i n hi]
  refine⟨fun h=>?_,fun h=>?_⟩
  ·rw[ih.1 (by omega),if_neg (by omega:¬ n=i)]
  ·by_cases e:n=i
   ·subst e
    rw[ih.1 (Nat.le_refl _),if_pos rfl,hb];simp
   ·rw[if_neg e]
    have:=ih.2 (by omega)
    omega
theorem done_iff(l:Array Bool)(k:Nat):l.getD k false=true↔isDone l k:=by
 unfold isDone
 rw[Array.getD_eq_getD_getElem?]
 cases l[k]? with
 |none=>simp
 |some b=>simp
theorem not_done(l:Array Bool)(k:Nat)(h:l.getD k true=false):¬ isDone l k∧k < l.size:=by
 unfold isDone
 rw[Array.getD_eq_getD_getElem?] at h
 cases e:l[k]? with
 |none=>rw[e] at h;simp at h
 |some b=>
  rw[e] at h
  refine⟨fun hb=>?_,(Array.getElem?_eq_some_iff.1 e).1⟩
  simp only[Option.some.injEq] at hb;subst hb
  simp at h
theorem done_of(l:Array Bool)(k:Nat)(hk:k < l.size)(h:l.getD k true=true):isDone l k:=by
 unfold isDone
 rw[Array.getD_eq_getD_getElem?] at h
 have e:l[k]? =some l[k]:=Array.getElem?_eq_getElem hk
 rw[e] at h ⊢
 simpa using h
section
variable {listed:Array Bool} {tmps:Array Value} {w:World} {μ:Loc} {tx:T Value} {done todo:List Eff} {m:Heap} {born:Nat}
theorem traj_want(S:Shown env call nt ops recs traj tm0 h0)(x:Eff)(hx:x∈traj):∃ r,recs[x.i]? =some r∧r.want=true∧2≤r.kd:=by
 obtain⟨l1,l2,e⟩:=List.append_of_mem hx
 have ht:=S.trj
 rw[e] at ht
 obtain⟨q,hq,hw,hk,_⟩:=traj_at env call recs l1 h0 0 x l2 ht
 exact⟨q,hq,hw,hk⟩
/-- When all is done. -/
theorem all_done(S:Shown env call nt ops recs traj tm0 h0)(I:SInv ops recs traj tm0 s h0 w0 μ0 sz listed tmps w μ tx done todo m born){tmF:T Value}{curF:Heap}{bornF:Nat}
  (htm:∀ (t:Nat),(∀ (i:Nat) (r:Rec),recs[i]? =some r→r.o.dst=some t→rdT tmF t=r.v)∧((∀ (i:Nat) (r:Rec),recs[i]? =some r→r.o.dst≠some t)→rdT tmF t=rdT tm0 t))
  (hcur:curOf h0 0 traj=(curF,bornF)) (hall:∀ i,i < ops.size→isDone listed i):
  Go1 μ0 s w0 μ (bear (2 ^ ops.size - 1) bornF recs 0 curF) w∧TRel μ tmF tmps:=by
 have hlt:∀ (i:Nat) (r:Rec),recs[i]? =some r→i < ops.size:=fun i r h=>by rw[← S.len];exact(List.getElem?_eq_some_iff.1 h).1
 have htd:todo=[]:=by
  cases todo with
  |nil=>rfl
  |cons x l=>
   exfalso
   obtain⟨r,hr,_⟩:=traj_want S x (by rw[I.split];simp)
   exact I.tout x (by simp) (hall _ (hlt _ _ hr))
 have hsp:=I.split
 rw[htd,List.append_nil] at hsp
 have hc:=I.cur
 rw[← hsp,hcur] at hc
 simp only[Prod.mk.injEq] at hc
 obtain⟨rfl,rfl⟩:=hc
 refine⟨?_,?_⟩
 ·have:=(births S I (mask:=2 ^ ops.size - 1) (fun k hk=>by
   rw[Nat.testBit_two_pow_sub_one] at hk
   exact hall k (by simpa using hk)) ops.size).1
  rw[← S.len,List.take_length] at this
  rw[← S.len];exact this
 ·have heq:∀ t,rdT tmF t=rdT tx t:=by
   intro t
   by_cases hex:∃ (i:Nat) (r:Rec),recs[i]? =some r∧r.o.dst=some t
   ·obtain⟨i,r,hr,hd⟩:=hex
    rw[(htm t).1 i r hr hd,I.tx1 t i r hr (hall i (hlt i r hr)) hd]
   ·rw[(htm t).2 (fun i r hr hd=>hex ⟨i,r,hr,hd⟩),I.tx2 t (fun i r hr _ hd=>hex ⟨i,r,hr,hd⟩)]
  refine⟨I.tr.1,fun t=>?_⟩
  rw[heq t]
  exact I.tr.2 t
/-- Some operation is ready as long as one is not listed. -/
theorem ready_nil(S:Shown env call nt ops recs traj tm0 h0)(hs:listed.size=ops.size)(h:Region.ready .any ops listed=[]):∀ i,i < ops.size→isDone listed i:=by
 intro i
 induction i using Nat.strongRecOn with
 |_ i ih=>
  intro hi
  cases hb:listed.getD i true with
  |true=>exact done_of listed i (by omega) hb
  |false=>
   exfalso
   have hrl:i < recs.length:=by rw[S.len];exact hi
   have hr:recs[i]? =some recs[i]:=List.getElem?_eq_getElem hrl
   have:i∈Region.ready .any ops listed:=by
    rw[mem_ready]
    refine⟨hb,_,S.op i _ hr,fun e he hbd=>?_⟩
    have hlt:=S.edge i _ hr e (Array.mem_toList_iff.2 he) hbd
    exact(done_iff listed e.on).2 (ih e.on hlt (by omega))
   rw[h] at this
   simp at this
/-- One operation, whichever is ready. -/
theorem sim_step(E:EnvOK P env)(C:CallOK P call)(CK:CallKeep call)(S:Shown env call nt ops recs traj tm0 h0)(I:SInv ops recs traj tm0 s h0 w0 μ0 sz listed tmps w μ tx done todo m born)(hnt:nt≤sz){i:Nat}(hi:i∈Region.ready .any ops listed)
  {K:Act→World→Prop} {Q:Exit→Act→World→Prop}
  (hK:∀ (u:World) (ν:Loc) (tx':T Value) (tmps':Array Value) (done' todo':List Eff) (m':Heap) (born':Nat),SInv ops recs traj tm0 s h0 w0 μ0 sz (listed.setIfInBounds i true) tmps' u ν tx' done' todo' m' born'→K ⟨tmps',[]⟩ u):
  wpOp P ops Q i K ⟨tmps,[]⟩ w:=by
 obtain⟨hb,o,ho,hdep⟩:=mem_ready.1 hi
 obtain⟨hn,hsz⟩:=not_done listed i hb
 have hrl:i < recs.length:=by rw[S.len,← I.size];exact hsz
 obtain⟨r,hr⟩:∃ r,recs[i]? =some r:=⟨_,List.getElem?_eq_getElem hrl⟩
 have hro:=S.op i r hr
 rw[ho] at hro
 simp only[Option.some.injEq] at hro
 subst hro
 have hd:∀ e,e∈r.o.after.toList→Region.binds .any e=true→isDone listed e.on:=fun e he hbd=>(done_iff listed e.on).1 (hdep e (Array.mem_toList_iff.1 he) hbd)
 have hwant:Region.wanted r.o (yielded ops tmps)=r.want:=by
  rw[← wanted_eq I.tr ops r.o,S.want i r hr]
  exact(want_eq (look_eq S I hr hn hd)).symm
 unfold wpOp
 rw[ho]
 simp only[hwant]
 cases hw:r.want with
 |false=>
  simp only[Bool.false_eq_true,if_false]
  obtain⟨tx',tmps',e,I'⟩:=step_still S I hnt hr hn hsz hd (by simp[Rec.isA,hw]) (fun x hx hxi=>by
   obtain⟨q,hq,hqw,_⟩:=traj_want S x (by rw[I.split];exact List.mem_append_right _ hx)
   rw[hxi,hr] at hq;simp only[Option.some.injEq] at hq;subst hq
   rw[hw] at hqw;simp at hqw) (v':=undef) (by rw[S.off i r hr hw];exact VRel.undef)
  rw[e]
  exact hK _ _ _ _ _ _ _ _ I'
 |true=>
  simp only[if_true]
  left
  by_cases hk:2≤r.kd
  ·exact step_eff E C CK S I hnt hr hn hsz hd hw hk hK
  ·have hne:∀ x,x∈todo→x.i≠i:=fun x hx hxi=>by
    obtain⟨q,hq,_,hqk⟩:=traj_want S x (by rw[I.split];exact List.mem_append_right _ hx)
    rw[hxi,hr] at hq;simp only[Option.some.injEq] at hq;subst hq
    exact hk hqk
   by_cases hk1:r.kd=1
   ·obtain⟨mk,ha,hv⟩:=S.a i r hr hw hk1
    have ha':opA env tx r.o.op=some (mk,r.obj):=by
     rw[← ha];exact(opA_tm (rd_eq (look_eq S I hr hn hd))).symm
    obtain⟨v',u,p,hrun,N⟩:=alloc_ok (w:=w) (ds:=[]) E I.tr ha'
    refine wp_of_value hrun ?_
    obtain⟨ν,tx',tmps',e,I'⟩:=step_alloc S I hnt hr hn hsz hd (by simp[Rec.isA,hw,hk1]) hne N hv
    rw[e]
    exact hK _ _ _ _ _ _ _ _ I'
   ·have hk0:r.kd=0:=by omega
    obtain⟨g,Rg,hq⟩:=quiet_same S I hr hn hd hw hk0
    obtain⟨v',hrun,rv⟩:=quiet_ok (ds:=[]) E Rg I.tr hq
    refine wp_of_value hrun ?_
    obtain⟨tx',tmps',e,I'⟩:=step_still S I hnt hr hn hsz hd (by simp only[Rec.isA,hk0,hw];rfl) hne rv
    rw[e]
    exact hK _ _ _ _ _ _ _ _ I'
end
/-- Whatever the order. -/
theorem sim_all(E:EnvOK P env)(C:CallOK P call)(CK:CallKeep call)(S:Shown env call nt ops recs traj tm0 h0)(hnt:nt≤sz){tmF:T Value}{curF:Heap}{bornF:Nat}
  (htm:∀ (t:Nat),(∀ (i:Nat) (r:Rec),recs[i]? =some r→r.o.dst=some t→rdT tmF t=r.v)∧((∀ (i:Nat) (r:Rec),recs[i]? =some r→r.o.dst≠some t)→rdT tmF t=rdT tm0 t))
  (hcur:curOf h0 0 traj=(curF,bornF)) {Q:Exit→Act→World→Prop}
  (hQ:∀ u ν tmps',Go1 μ0 s w0 ν (bear (2 ^ ops.size - 1) bornF recs 0 curF) u→TRel ν tmF tmps'→tmps'.size=sz→Q .normal ⟨tmps',[]⟩ u):
  ∀ (fuel:Nat) (listed:Array Bool) (tmps:Array Value) (w:World) (μ:Loc) (tx:T Value) (done todo:List Eff) (m:Heap) (born:Nat),left listed ops.size≤fuel→
   SInv ops recs traj tm0 s h0 w0 μ0 sz listed tmps w μ tx done todo m born→wpAny P .any ops Q fuel listed ⟨tmps,[]⟩ w:=by
 intro fuel
 induction fuel with
 |zero=>
  intro listed tmps w μ tx done todo m born hl I
  have hz:∀ i,i < ops.size→isDone listed i:=fun i hi=>done_of listed i (by rw[I.size];exact hi) (left_zero listed ops.size (by omega) i hi)
  refine⟨?_,?_⟩
  ·rw[List.eq_nil_iff_forall_not_mem]
   intro i hi
   obtain⟨hb,o,ho,_⟩:=mem_ready.1 hi
   exact(not_done listed i hb).1 (hz i (Array.getElem?_eq_some_iff.1 ho).1)
  ·obtain⟨g,t⟩:=all_done S I htm hcur hz
   exact hQ _ _ _ g t I.tsz
 |succ fuel ih=>
  intro listed tmps w μ tx done todo m born hl I
  refine⟨fun hr=>?_,fun i hi=>?_⟩
  ·obtain⟨g,t⟩:=all_done S I htm hcur (ready_nil S I.size hr)
   exact hQ _ _ _ g t I.tsz
  ·refine sim_step E C CK S I hnt hi (fun u ν tx' tmps' done' todo' m' born' I'=>ih _ _ _ _ _ _ _ _ _ ?_ I')
   obtain⟨hb,o,ho,_⟩:=mem_ready.1 hi
   have:=(left_set listed i (not_done listed i hb).2 hb ops.size).2 (Array.getElem?_eq_some_iff.1 ho).1
   omega
end
end Go.PanE
namespace Go.PanE
theorem zip_all{α:Type}(l:List α)(p:α×Nat→Bool)(h:l.zipIdx.all p=true)(i:Nat)(r:α)(e:l[i]? =some r):p (r,i)=true:=by
 rw[List.all_eq_true] at h
 exact h (r,i) (List.mk_mem_zipIdx_iff_getElem?.2 e)
theorem walk1_op{env:Env}{call:CallT}{nt:Nat}{ops:List Oper}{k:Nat}{o:Oper}{d d':DS}(e:walk1 env call nt ops k o d=some d'):∃ r:Rec,r.o=o∧d'.recs=d.recs++[r]:=by
 unfold walk1 at e
 simp only at e
 split at e
 ·split at e
  ·split at e
   ·split at e
    ·simp only[Option.some.injEq] at e;subst e;exact⟨_,rfl,rfl⟩
    ·simp at e
   ·simp at e
  ·split at e
   ·split at e
    ·simp only[Option.some.injEq] at e;subst e;exact⟨_,rfl,rfl⟩
    ·simp at e
   ·simp at e
  ·split at e
   ·split at e
    ·simp only[Option.some.injEq] at e;subst e;exact⟨_,rfl,rfl⟩
    ·simp at e
   ·simp at e
 ·split at e
  ·simp only[Option.some.injEq] at e;subst e;exact⟨_,rfl,rfl⟩
  ·simp at e
theorem walk_op{env:Env}{call:CallT}{nt:Nat}{ops:List Oper}:∀ (l:List Oper) (k:Nat) (d d':DS),walk env call nt ops l k d=some d'→d'.recs.map (·.o)=d.recs.map (·.o)++l:=by
 intro l
 induction l with
 |nil=>intro k d d' e;simp only[walk,Option.some.injEq] at e;subst e;simp
 |cons o l ih=>
  intro k d d' e
  simp only[walk] at e
  split at e
  ·rename_i d1 h1
   obtain⟨r,hr,h2⟩:=walk1_op h1
   rw[ih _ _ _ e,h2,List.map_append,List.map_singleton,hr,List.append_assoc,List.singleton_append]
  ·simp at e
/-- What the looks of a drawn region say. -/
structure Drawn(env:Env)(call:CallT)(nt:Nat)(ops:Array Oper)(s:St)(d:DS):Prop where
 shown:Shown env call nt ops d.recs d.traj s.tm (reserve (countA env ops.toList) s.h)
 tmd:∀ (t:Nat),(∀ (i:Nat) (r:Rec),d.recs[i]? =some r→r.o.dst=some t→rdT d.tm t=r.v)∧((∀ (i:Nat) (r:Rec),d.recs[i]? =some r→r.o.dst≠some t)→rdT d.tm t=rdT s.tm t)
 cur:curOf (reserve (countA env ops.toList) s.h) 0 d.traj=(d.cur,d.born)
 ids:∀ (i:Nat) (r:Rec),d.recs[i]? =some r→r.isA=true→s.h.nx≤r.id∧r.id < s.h.nx+countA env ops.toList
theorem drawn_of{env:Env}{call:CallT}{nt:Nat}{ops:Array Oper}{s s':St}(e:drawP env call nt ops.toList s=some s'):
  ∃ d:DS,Drawn env call nt ops s d∧s'=⟨d.tm,bear (2 ^ ops.size - 1) d.born d.recs 0 d.cur⟩:=by
 unfold drawP at e
 simp only at e
 split at e
 ·rename_i d hw
  cases hc:(orderOK ops.toList d.recs && chainOK d.recs d.traj && Nat.beq d.na (s.h.nx+countA env ops.toList)) with
  |false=>rw[hc] at e;simp at e
  |true=>
   rw[hc] at e
   simp only[cond_true] at e
   simp only[Bool.and_eq_true] at hc
   obtain⟨⟨hord,hchain⟩,hna⟩:=hc
   have hqt:quietAll env d.recs d.traj (reserve (countA env ops.toList) s.h)∧some (⟨d.tm,bear (2 ^ ops.toList.length - 1) d.born d.recs 0 d.cur⟩:St)=some s':=by
    cases hq:(d.recs.zipIdx.all fun(r,i)=>!r.want || !Nat.beq r.kd 0 || !usesHeap r.o.op || quietOK env d.recs r i [] d.traj (reserve (countA env ops.toList) s.h) 0) with
    |true=>
     rw[hq] at e
     refine⟨fun i r hr hw hk hu=>quiet_of _ _ _ _ _ _ _ _ ?_,e⟩
     have:=zip_all _ _ hq i r hr
     simp only[hw,hk,hu,Bool.or_eq_true] at this
     rcases this with h|h
     ·simp at h
     ·exact h
    |false=>
     rw[hq] at e
     simp only[cond_false] at e
     split at e
     ·rename_i hp;exact⟨hp,e⟩
     ·simp at e
   obtain⟨hqt,e⟩:=hqt
   simp only[Option.some.injEq] at e
   have hna:=Nat.eq_of_beq_eq_true hna
   have hops:=walk_op _ _ _ _ hw
   simp only[List.map_nil,List.nil_append] at hops
   have hget:∀ (i:Nat) (r:Rec),d.recs[i]? =some r→ops.toList[i]? =some r.o:=by
    intro i r h
    rw[← hops,List.getElem?_map,h];rfl
   have hget2:∀ (i:Nat) (o:Oper),ops.toList[i]? =some o→∃ r:Rec,d.recs[i]? =some r∧r.o=o:=by
    intro i o h
    rw[← hops,List.getElem?_map] at h
    cases hr:d.recs[i]? with
    |none=>rw[hr] at h;simp at h
    |some r=>rw[hr] at h;exact⟨r,rfl,by simpa using h⟩
   unfold orderOK at hord
   have hord2:∀ (i:Nat) (r:Rec),d.recs[i]? =some r→(∀ ed,ed∈r.o.after.toList→Region.binds .any ed=true→ed.on < i)∧∀ (k:Nat) (q:Rec) (t:Nat),d.recs[k]? =some q→i≠k→q.o.dst=some t→r.o.dst≠some t∧(t∈looks ops.toList r.o→(k < i∧r.anc.testBit k=true)∨(i < k∧q.anc.testBit i=true)):=by
    intro i r hr
    have h:=zip_all _ _ hord i r hr
    simp only[Bool.and_eq_true] at h
    refine⟨fun ed he hb=>?_,fun k q t hq hik hqt=>?_⟩
    ·have:=List.all_eq_true.1 h.1 ed he
     rw[hb] at this
     simpa using this
    ·have:=zip_all _ _ h.2 k q hq
     simp only[hqt,Bool.or_eq_true,Bool.and_eq_true] at this
     rcases this with h1|⟨h1,h2⟩
     ·exact absurd (Nat.eq_of_beq_eq_true h1) hik
     ·refine⟨fun hh=>?_,fun ht=>?_⟩
      ·rw[hh] at h1;simp at h1
      ·rcases h2 with(h2|h2)|h2
       ·have:(looks ops.toList r.o).contains t=true:=List.contains_iff_mem.2 ht
        rw[this] at h2;simp at h2
       ·exact .inl ⟨by simpa using h2.1,h2.2⟩
       ·exact .inr ⟨by simpa using h2.1,h2.2⟩
   have hD:∀ (i j:Nat) (o q:Oper) (t:Nat),ops.toList[i]? =some o→ops.toList[j]? =some q→o.dst=some t→q.dst=some t→i=j:=by
    intro i j o q t hi hj ho hq
    obtain⟨r,hr,rfl⟩:=hget2 i o hi
    obtain⟨p,hp,rfl⟩:=hget2 j q hj
    by_cases hij:i=j
    ·exact hij
    ·exact absurd ho ((hord2 i r hr).2 j p t hp hij hq).1
   have W:=walk_inv env call nt ops.toList hD ops.toList 0 _ d (by simp) (walk_start env call nt ops.toList s.h.nx s.tm (reserve (countA env ops.toList) s.h)) hw
   refine⟨d,⟨⟨?_,?_,W.anc,W.tmr,W.want,W.off,W.q,fun i r hr hw hk=>(W.a i r hr hw hk).2.2,W.ainj,W.dst,W.e,W.traj,fun i r hr=>(hord2 i r hr).1,fun i k r q t hr hq hik hqt=>(hord2 i r hr).2 k q t hq hik hqt,hchain,?_⟩,W.tmd,W.cur,?_⟩,?_⟩
   ·rw[W.len];simp
   ·intro i r hr
    rw[← Array.getElem?_toList];exact hget i r hr
   ·exact hqt
   ·intro i r hr ha
    obtain⟨h1,h2⟩:=isA_kd ha
    have:=W.a i r hr h1 h2
    rw[hna] at this
    exact⟨this.1,this.2.1⟩
   ·rw[← e];simp
 ·simp at e
section
variable {P:Program} {env:Env} {call:CallT}
theorem draw_true(E:EnvOK P env)(hm:P.follows .mixedOrders=true)(C:CallOK P call)(CK:CallKeep call){nt id:Nat}{ops:Array Oper}{s s':St}(e:drawP env call nt ops.toList s=some s'){μ:Loc}{w:World}{tmps:Array Value}(R:Rep μ s.h w)(TR:TRel μ s.tm tmps)(hnt:nt≤tmps.size)
  {Q:Exit→Act→World→Prop} (hQ:∀ u ν tmps',Go1 μ s.h w ν s'.h u→TRel ν s'.tm tmps'→tmps'.size=tmps.size→Q .normal ⟨tmps',[]⟩ u):(Code.region id ops true).wp P Q ⟨tmps,[]⟩ w:=by
 obtain⟨d,D,rfl⟩:=drawn_of e
 refine wp_region_any hm ?_
 have R':Rep μ s.h {w with drawn:=w.drawn+1}:=⟨fun b o h=>by
  obtain⟨p,hp,ho⟩:=R.live b o h
  exact⟨p,hp,ho.world rfl⟩,R.inj,R.fresh,R.bound,R.glob⟩
 have nodone:∀ i,¬ isDone (Array.replicate ops.size false) i:=by
  intro i h
  unfold isDone at h
  rw[Array.getElem?_replicate] at h
  split at h
  ·simp at h
  ·simp at h
 obtain⟨r1,r2,r3⟩:=reserve_spec (countA env ops.toList) s.h
 refine sim_all (s:=s.h) (μ0:=μ) (w0:={w with drawn:=w.drawn+1}) (sz:=tmps.size) E C CK D.shown hnt D.tmd D.cur (fun u ν tmps' g t hsz=>hQ u ν tmps' ⟨g.ext,g.rep,g.size,g.own,g.frame,g.os,g.out,g.tape,g.nx,g.low⟩ t hsz)
  ops.size _ tmps _ μ s.tm [] d.traj (reserve (countA env ops.toList) s.h) 0 (left_le _ _) ?_
 refine⟨by simp,fun i r _ h=>absurd h (nodone i),rfl,fun x hx=>by simp at hx,fun x _=>nodone x.i,rfl,go_reserve R' _,TR,fun t i r _ h=>absurd h (nodone i),fun _ _=>rfl,rfl,fun i r _ _ h=>absurd h (nodone i),fun i j r q p p' _ _ _ _ h=>absurd h (nodone i),?_,?_,?_,fun i h=>by simp at h⟩
 ·intro i r hr ha _
  exact R.fresh _ (D.ids i r hr ha).1
 ·intro i r hr ha _
  have:=(D.ids i r hr ha).1
  rw[r3,if_neg (by omega)]
 ·intro i r hr ha
  rw[r1]
  exact D.ids i r hr ha
/-- What stays below a height. -/
structure KeepB(base:Nat)(h g:Heap):Prop where
 nx:h.nx≤g.nx
 wm:g.wm≤h.wm
 get:∀ b,b < base→b < g.wm→g.get b=h.get b
 no:∀ b,b < base→h.get b=none→g.get b=none
theorem KeepB.trans{base:Nat}{h g f:Heap}(a:KeepB base h g)(b:KeepB base g f):KeepB base h f:=
 ⟨Nat.le_trans a.nx b.nx,Nat.le_trans b.wm a.wm,fun k h1 h2=>(b.get k h1 h2).trans (a.get k h1 (Nat.lt_of_lt_of_le h2 b.wm)),fun k h1 e=>b.no k h1 (a.no k h1 e)⟩
theorem Keep.b{base:Nat}{h g:Heap}(hb:base≤h.nx)(k:Keep h g):KeepB base h g:=
 ⟨k.nx,k.wm,fun b h1 h2=>k.get b (by omega) h2,fun b h1 e=>k.no b (by omega) e⟩
theorem bear_keep{base:Nat}(mask born:Nat):∀ (l:List Rec) (k:Nat) (h:Heap),(∀ (j:Nat) (r:Rec),l[j]? =some r→r.isA=true→base≤r.id∧r.id < h.nx)→KeepB base h (bear mask born l k h):=by
 intro l
 induction l with
 |nil=>intro k h _;exact⟨Nat.le_refl _,Nat.le_refl _,fun _ _ _=>rfl,fun _ _ e=>e⟩
 |cons r l ih=>
  intro k h hids
  simp only[bear]
  split
  ·rename_i hc
   have ha:r.isA=true:=by
    rw[Bool.and_eq_true,Bool.and_eq_true] at hc;exact hc.1.1
   obtain⟨h1,h2⟩:=hids 0 r rfl ha
   refine KeepB.trans ?_ (ih (k+1) (h.put r.id r.obj) (fun j q hq hqa=>hids (j+1) q (by simpa using hq) hqa))
   refine⟨Nat.le_refl _,?_,fun b hb hw=>?_,fun b hb e=>?_⟩
   ·show(bif Nat.blt r.id h.wm then r.id else h.wm)≤h.wm
    rw[wm_min];omega
   ·rw[Heap.get_put _ _ _ _ h2,if_neg (by omega)]
   ·rw[Heap.get_put _ _ _ _ h2,if_neg (by omega)];exact e
  ·exact ih (k+1) h (fun j q hq hqa=>hids (j+1) q (by simpa using hq) hqa)
theorem traj_keep(CK:CallKeep call){recs:List Rec}{base:Nat}{h0:Heap}(hb:base≤h0.nx)(hids:∀ (j:Nat) (r:Rec),recs[j]? =some r→r.isA=true→base≤r.id∧r.id < h0.nx):∀ (l:List Eff) (h:Heap) (b:Nat),h0.nx≤h.nx→TrajOK env call recs h b l→KeepB base h (curOf h b l).1:=by
 intro l
 induction l with
 |nil=>intro h b _ _;exact⟨Nat.le_refl _,Nat.le_refl _,fun _ _ _=>rfl,fun _ _ e=>e⟩
 |cons x l ih=>
  intro h b hn t
  obtain⟨⟨r,_,_,_,h1,h2,_⟩,t2⟩:=t
  have k1:KeepB base h x.pre:=by
   rw[h1]
   refine bear_keep r.anc b _ 0 h (fun j q hq ha=>?_)
   rw[List.getElem?_take] at hq
   by_cases hj:j < x.i
   ·rw[if_pos hj] at hq
    have:=hids j q hq ha
    exact⟨this.1,by omega⟩
   ·rw[if_neg hj] at hq;exact absurd hq (by simp)
  have hk:=eff_keep CK h2
  have hpn:=k1.nx
  have hkn:=hk.nx
  exact(k1.trans (hk.b (by omega))).trans (ih x.post x.born (by omega) t2)
theorem draw_keep(CK:CallKeep call){nt:Nat}{ops:List Oper}{s s':St}(e:drawP env call nt ops s=some s'):Keep s.h s'.h:=by
 obtain⟨d,D,rfl⟩:=drawn_of (ops:=ops.toArray) (by simpa using e)
 obtain⟨r1,r2,r3⟩:=reserve_spec (countA env ops.toArray.toList) s.h
 have k1:=traj_keep CK (base:=s.h.nx) (h0:=reserve (countA env ops.toArray.toList) s.h) (by rw[r1];omega) (fun j r hr ha=>by rw[r1];exact D.ids j r hr ha) d.traj _ 0 (Nat.le_refl _) D.shown.trj
 rw[D.cur] at k1
 have hn:=k1.nx
 rw[r1] at hn
 have k2:=bear_keep (base:=s.h.nx) (2 ^ ops.toArray.size - 1) d.born d.recs 0 d.cur (fun j r hr ha=>⟨(D.ids j r hr ha).1,by have:=(D.ids j r hr ha).2;have hn2:s.h.nx+countA env ops.toArray.toList≤d.cur.nx:=hn;omega⟩)
 have k:=k1.trans k2
 refine⟨by have:=k.nx;rw[r1] at this;simp only;omega,by have:=k.wm;rw[r2] at this;exact this,fun b h1 h2=>?_,fun b h1 h2=>?_⟩
 ·rw[k.get b h1 h2,r3,if_pos h1]
 ·exact k.no b h1 (by rw[r3,if_pos h1];exact h2)
end
end Go.PanE
namespace Go.PanE
/-- The small machine with its drawn regions. -/
noncomputable def drawn(env:Env):DrawT:=fun call nt ops s=>drawP env call nt ops s
theorem drawn_ok{P:Program}{env:Env}(E:EnvOK P env)(hm:P.follows .mixedOrders=true):DrawOK P (drawn env):=
 fun _ C CK _ _ _ _ _ e _ _ _ R TR hnt _ hQ=>draw_true E hm C CK e R TR hnt hQ
theorem drawn_keep(env:Env):DrawKeep (drawn env):=fun _ CK _ _ _ _ e=>draw_keep CK e
end Go.PanE
namespace Go.PanE
/-- A value without objects. -/
def plainZ:Nat→Value→Bool
 |d+1,.agg cs=>cs.toList.all (plainZ d)
 |_,v=>plainV v
theorem plainZ_rel{μ:Loc}:∀ (d:Nat) (v:Value),plainZ d v=true→VRel μ v v:=by
 intro d
 induction d with
 |zero=>
  intro v e
  exact plainV_rel (by cases v <;>exact e)
 |succ d ih=>
  intro v e
  cases v with
  |agg cs=>
   refine .agg _ _ rfl (fun i x x' h1 h2=>?_)
   rw[h1] at h2
   simp only[Option.some.injEq] at h2;subst h2
   exact ih x (List.all_eq_true.1 e x (Array.mem_toList_iff.2 (Array.mem_of_getElem? h1)))
  |_=>exact plainV_rel e
def envOf(P:Program)(x:FuncId→Option Ext)(ky:TypeId→Value→Bool):Env where
 und t:=P.underlying t
 size t:=(P.info? t).map (·.size)
 bytes t:=(P.info? t).map (·.bytes)
 zero t:=match P.info? t with
  |some i=>match i.zero with
   |some z=>if plainZ 6 z then some z else none
   |none=>none
  |none=>none
 fn f:=match P.funcs[f]? with
  |some fn=>if !(fn.name== "runtime.NumGoroutine") && fn.body.isSome then some fn else none
  |none=>none
 plain t:= !P.stoodInHeld t && !P.eqGuardType P.depth t
 key:=ky
 ext:=x
/-- What is told of functions without a body is true. -/
def ExtOK(P:Program)(x:FuncId→Option Ext):Prop:=
 ∀ f e,x f=some e→∀ args h v h',e.run args h=some (v,h')→∀ (μ:Loc) (w:World) (args':List Value),Rep μ h w→LRel μ args args'→
  ∃ u ν v',(callFunc f ⟨args'⟩).run P w= .ok (.value v') u∧Go1 μ h w ν h' u∧VRel ν v v'
theorem envOf_ok(P:Program){x:FuncId→Option Ext}(hx:ExtOK P x){ky:TypeId→Value→Bool}(hky:∀ t v,ky t v=true→WideMaps.KeyLaw P t∧∃ l,keyOf P t v=some l):EnvOK P (envOf P x ky) where
 ext:=hx
 key:=hky
 und _ _ e:=e
 size t n e:=by
  simp only[envOf,Option.map_eq_some_iff] at e
  exact e
 bytes t n e:=by
  simp only[envOf,Option.map_eq_some_iff] at e
  exact e
 zero t z e:=by
  simp only[envOf] at e
  split at e
  ·rename_i i hi
   split at e
   ·rename_i z' hz
    split at e
    ·rename_i hp
     simp only[Option.some.injEq] at e;subst e
     exact⟨⟨i,hi,hz⟩,fun μ=>plainZ_rel 6 _ hp⟩
    ·simp at e
   ·simp at e
  ·simp at e
 fn f fn e:=by
  simp only[envOf] at e
  split at e
  ·rename_i fn' hf
   split at e
   ·rename_i hc
    simp only[Option.some.injEq] at e;subst e
    simp only[Bool.and_eq_true,Bool.not_eq_true'] at hc
    exact⟨hf,hc.1,hc.2⟩
   ·simp at e
  ·simp at e
 plain t e:=by
  simp only[envOf,Bool.and_eq_true,Bool.not_eq_true'] at e
  exact e
end Go.PanE
namespace Go.PanE
inductive Guess where
 |n
 |b (x:Bool)
 |v (x:Value)
 |e (x:Value) (h:Heap)
 |o (mk:Nat→Value) (obj:AObj)
 |s (x:Ex) (l:List (Nat×Value)) (h:Heap)
def holds:List Prop→Prop
 |[]=>True
 |p::l=>p∧holds l
theorem holds_append:∀ (l m:List Prop),holds (l++m)↔holds l∧holds m:=by
 intro l m
 induction l with
 |nil=>simp[holds]
 |cons p l ih=>simp only[List.cons_append,holds,ih,and_assoc]
/-- What is known of the slots. -/
def Agree(ov tm:T Value):Prop:=∀ t v,ov.get t=some v→rdT tm t=v
theorem Agree.put{ov tm:T Value}(A:Agree ov tm)(d:Nat)(v:Value):Agree (ov.put d v) (tm.put d v):=by
 intro t x h
 unfold rdT
 rw[T.get_put] at h ⊢
 split at h
 ·rename_i e;rw[if_pos e];simpa using h
 ·rename_i e;rw[if_neg e];exact A t x h
theorem Agree.rd{ov tm:T Value}(A:Agree ov tm){t:Nat}(h:(ov.get t).isSome=true):rdT ov t=rdT tm t:=by
 cases e:ov.get t with
 |none=>rw[e] at h;simp at h
 |some v=>rw[A t v e];simp[rdT,e]
def knows(ov:T Value)(x:Operand):Bool:=match x with| .tmp t=>(ov.get t).isSome|_=>true
theorem knows_rd{ov tm:T Value}(A:Agree ov tm){x:Operand}(h:knows ov x=true):PanE.rd ov x=PanE.rd tm x:=by
 cases x with
 |tmp t=>simp only[PanE.rd,A.rd h]
 |_=>rfl
def hasAll(ov:T Value)(op:Op):Bool:=op.operands.toList.all (knows ov)
theorem hasAll_rd{ov tm:T Value}(A:Agree ov tm){op:Op}(h:hasAll ov op=true):∀ x,x∈op.operands.toList→PanE.rd ov x=PanE.rd tm x:=
 fun x hx=>knows_rd A (List.all_eq_true.1 h x hx)
/-- Operations that ask for a guess. -/
def isG:Op→Bool
 | .binOp .. | .load .. | .index .. | .indexAddr .. | .slice .. | .lookup .. | .convert .. | .makeSlice .. | .store .. | .next .. | .mapUpdate .. =>true
 | .call ⟨.builtin .len,_,_⟩| .call ⟨.builtin .cap,_,_⟩=>false
 | .call _=>true
 |_=>false
/-- What an operation makes. -/
inductive GO where
 |q (v:Value)
 |a (mk:Nat→Value) (obj:AObj)
 |e (v:Value) (h:Heap)
section
variable (env:Env) (call:CallT) (nt:Nat)
def comp(h:Heap)(ov:T Value)(op:Op):Option GO:=
 match opQ env h ov op with
 |some v=>some (.q v)
 |none=>match opA env ov op with
  |some (mk,obj)=>some (.a mk obj)
  |none=>match opE env call h ov op with
   |some (v,h')=>some (.e v h')
   |none=>none
/-- An operation, by a guess. -/
def gop(gs:List Guess)(h:Heap)(ov:T Value)(op:Op):Option (List Guess×List Prop×GO):=
 bif hasAll ov op then
  bif isG op then
   match gs with
   | .n::gs=>match comp env call h ov op with|some r=>some (gs,[],r)|none=>none
   | .v v::gs=>some (gs,[opQ env h ov op=some v],.q v)
   | .b g::gs=>match opQ env h ov op with|some (.bool b)=>some (gs,[b=g],.q (.bool g))|_=>none
   | .o mk obj::gs=>match opQ env h ov op with|none=>some (gs,[opA env ov op=some (mk,obj)],.a mk obj)|some _=>none
   | .e v h'::gs=>match opQ env h ov op with
    |none=>match opA env ov op with|none=>some (gs,[opE env call h ov op=some (v,h')],.e v h')|some _=>none
    |some _=>none
   |_=>none
  else match comp env call h ov op with|some r=>some (gs,[],r)|none=>none
 else none
/-- What an operation makes goes into its slot. -/
def gput(dst:Option Tmp)(ov:T Value)(h:Heap):GO→Option St
 | .q v=>match putD nt dst v ov with|some ov'=>some ⟨ov',h⟩|none=>none
 | .a mk obj=>match putD nt dst (mk h.nx) ov with|some ov'=>some ⟨ov',h.alloc obj⟩|none=>none
 | .e v h'=>match putD nt dst v ov with|some ov'=>some ⟨ov',h'⟩|none=>none
theorem putD_agree{dst:Option Tmp}{v:Value}{ov ov' tm:T Value}(A:Agree ov tm)(e:putD nt dst v ov=some ov'):∃ tm',putD nt dst v tm=some tm'∧Agree ov' tm':=by
 unfold putD at e ⊢
 split at e
 ·simp only[Option.some.injEq] at e;subst e;exact⟨tm,rfl,A⟩
 ·rename_i d
  split at e
  ·rename_i hd
   simp only[Option.some.injEq] at e;subst e
   exact⟨tm.put d v,by rw[if_pos hd],A.put d v⟩
  ·simp at e
/-- What comp and op1 say is the same. -/
theorem comp_op1{h:Heap}{tm:T Value}{o:Oper}{r:GO}(e:comp env call h tm o.op=some r):op1 env call nt ⟨tm,h⟩ o=gput nt o.dst tm h r:=by
 unfold comp at e
 unfold op1
 simp only
 split at e
 ·rename_i v hq
  simp only[Option.some.injEq] at e;subst e
  rw[hq];rfl
 ·rename_i hq
  rw[hq]
  simp only
  split at e
  ·rename_i mk obj ha
   simp only[Option.some.injEq] at e;subst e
   rw[ha];rfl
  ·rename_i ha
   rw[ha]
   simp only
   split at e
   ·rename_i v h' he
    simp only[Option.some.injEq] at e;subst e
    rw[he];rfl
   ·simp at e
theorem comp_tm{h:Heap}{ov tm:T Value}{op:Op}(hl:∀ x,x∈op.operands.toList→rd ov x=rd tm x):comp env call h ov op=comp env call h tm op:=by
 unfold comp
 rw[opQ_tm hl,opA_tm hl,opE_tm hl]
theorem gop_comp{gs gs':List Guess}{fs:List Prop}{h:Heap}{ov tm:T Value}{op:Op}{r:GO}(A:Agree ov tm)(e:gop env call gs h ov op=some (gs',fs,r))(hf:holds fs):comp env call h tm op=some r:=by
 unfold gop at e
 cases ha:hasAll ov op with
 |false=>rw[ha] at e;simp at e
 |true=>
  rw[← comp_tm env call (hasAll_rd A ha)]
  rw[ha] at e
  simp only[cond_true] at e
  cases hg:isG op with
  |false=>
   rw[hg] at e
   simp only[cond_false] at e
   split at e
   ·rename_i r' hr
    simp only[Option.some.injEq,Prod.mk.injEq] at e
    rw[hr,e.2.2]
   ·simp at e
  |true=>
   rw[hg] at e
   simp only[cond_true] at e
   split at e
   ·split at e
    ·rename_i r' hr
     simp only[Option.some.injEq,Prod.mk.injEq] at e
     rw[hr,e.2.2]
    ·simp at e
   ·simp only[Option.some.injEq,Prod.mk.injEq] at e
    obtain⟨_,rfl,rfl⟩:=e
    unfold comp
    rw[hf.1]
   ·split at e
    ·rename_i b hq
     simp only[Option.some.injEq,Prod.mk.injEq] at e
     obtain⟨_,rfl,rfl⟩:=e
     unfold comp
     rw[hq,hf.1]
    ·simp at e
   ·split at e
    ·rename_i hq
     simp only[Option.some.injEq,Prod.mk.injEq] at e
     obtain⟨_,rfl,rfl⟩:=e
     unfold comp
     rw[hq,hf.1]
    ·simp at e
   ·split at e
    ·rename_i hq
     split at e
     ·rename_i ha2
      simp only[Option.some.injEq,Prod.mk.injEq] at e
      obtain⟨_,rfl,rfl⟩:=e
      unfold comp
      rw[hq,ha2,hf.1]
     ·simp at e
    ·simp at e
   ·simp at e
theorem gput_agree{dst:Option Tmp}{ov tm:T Value}{h:Heap}{r:GO}{s':St}(A:Agree ov tm)(e:gput nt dst ov h r=some s'):∃ tm',gput nt dst tm h r=some ⟨tm',s'.h⟩∧Agree s'.tm tm':=by
 unfold gput at e ⊢
 cases r with
 |q v=>
  simp only at e ⊢
  split at e
  ·rename_i ov' hp
   simp only[Option.some.injEq] at e;subst e
   obtain⟨tm',h1,h2⟩:=putD_agree nt A hp
   exact⟨tm',by rw[h1],h2⟩
  ·simp at e
 |a mk obj=>
  simp only at e ⊢
  split at e
  ·rename_i ov' hp
   simp only[Option.some.injEq] at e;subst e
   obtain⟨tm',h1,h2⟩:=putD_agree nt A hp
   exact⟨tm',by rw[h1],h2⟩
  ·simp at e
 |e v h'=>
  simp only at e ⊢
  split at e
  ·rename_i ov' hp
   simp only[Option.some.injEq] at e;subst e
   obtain⟨tm',h1,h2⟩:=putD_agree nt A hp
   exact⟨tm',by rw[h1],h2⟩
  ·simp at e
/-- Is what guards an operation known? -/
def knowsG(ops:List Oper)(ov:T Value)(o:Oper):Bool:=
 match o.guard with
 |none=>true
 |some (j,_)=>match ops[j]? with
  |some g=>match g.dst with
   |some d=>(ov.get d).isSome
   |none=>true
  |none=>true
theorem wanted_agree{ops:List Oper}{ov tm:T Value}{o:Oper}(A:Agree ov tm)(h:knowsG ops ov o=true):wantedA ops ov o=wantedA ops tm o:=by
 unfold wantedA
 unfold knowsG at h
 cases hg:o.guard with
 |none=>rfl
 |some g=>
  obtain⟨j,want⟩:=g
  rw[hg] at h
  simp only at h ⊢
  have:guardV ops ov j=guardV ops tm j:=by
   unfold guardV
   cases ho:ops[j]? with
   |none=>rfl
   |some q=>
    rw[ho] at h
    simp only at h ⊢
    cases hd:q.dst with
    |none=>rfl
    |some d=>
     rw[hd] at h
     simp only at h ⊢
     rw[A.rd h]
  rw[this]
/-- Operations in their order. -/
def gops(ops:List Oper):List Oper→List Guess→St→Option (List Guess×List Prop×St)
 |[],gs,s=>some (gs,[],s)
 |o::l,gs,s=>
  bif knowsG ops s.tm o then
   bif wantedA ops s.tm o then
    match gop env call gs s.h s.tm o.op with
    |some (gs1,fs,r)=>match gput nt o.dst s.tm s.h r with
     |some s1=>match gops ops l gs1 s1 with
      |some (gs2,fs2,s2)=>some (gs2,fs++fs2,s2)
      |none=>none
     |none=>none
    |none=>none
   else match putD nt o.dst undef s.tm with
    |some tm=>gops ops l gs ⟨tm,s.h⟩
    |none=>none
  else none
theorem gops_ok(ops:List Oper):∀ (l:List Oper) (gs gs':List Guess) (s s':St) (fs:List Prop),gops env call nt ops l gs s=some (gs',fs,s')→holds fs→∀ tm,Agree s.tm tm→∃ tm',opsA env call nt ops l ⟨tm,s.h⟩=some ⟨tm',s'.h⟩∧Agree s'.tm tm':=by
 intro l
 induction l with
 |nil=>
  intro gs gs' s s' fs e hf tm A
  simp only[gops,Option.some.injEq,Prod.mk.injEq] at e
  obtain⟨_,_,rfl⟩:=e
  exact⟨tm,rfl,A⟩
 |cons o l ih=>
  intro gs gs' s s' fs e hf tm A
  rw[gops] at e
  cases hk:knowsG ops s.tm o with
  |false=>rw[hk] at e;simp at e
  |true=>
   rw[hk] at e
   simp only[cond_true] at e
   have hw:=wanted_agree A hk
   cases hwa:wantedA ops s.tm o with
   |true=>
    rw[hwa] at e hw
    simp only[cond_true] at e
    split at e
    ·rename_i gs1 fs1 r hop
     split at e
     ·rename_i s1 hp
      split at e
      ·rename_i gs2 fs2 s2 hrest
       simp only[Option.some.injEq,Prod.mk.injEq] at e
       obtain⟨_,rfl,rfl⟩:=e
       rw[holds_append] at hf
       obtain⟨tm1,h1,A1⟩:=gput_agree nt A hp
       have h2:=comp_op1 env call nt (o:=o) (gop_comp env call A hop hf.1)
       rw[h1] at h2
       obtain⟨tm',h3,A2⟩:=ih gs1 gs2 s1 s2 fs2 hrest hf.2 tm1 A1
       refine⟨tm',?_,A2⟩
       rw[opsA]
       rw[← hw,if_pos rfl,h2]
       exact h3
      ·simp at e
     ·simp at e
    ·simp at e
   |false=>
    rw[hwa] at e hw
    simp only[cond_false] at e
    split at e
    ·rename_i ov1 hp
     obtain⟨tm1,h1,A1⟩:=putD_agree nt A hp
     obtain⟨tm',h3,A2⟩:=ih gs gs' ⟨ov1,s.h⟩ s' fs e hf tm1 A1
     refine⟨tm',?_,A2⟩
     rw[opsA]
     rw[← hw,if_neg (by simp),h1]
     exact h3
    ·simp at e
end
end Go.PanE
