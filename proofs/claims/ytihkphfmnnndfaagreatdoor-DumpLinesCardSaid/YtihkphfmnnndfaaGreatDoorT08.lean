/-
 Part 8 of the proof of Rows.DumpLinesCardSaid. Under the conditions that its statements name (EnvOK and the like).
-/
import Derived.Test.YtihkphfmnnndfaaGreatDoorT07
namespace Go.PanE
section
variable {P:Program} {env:Env} {call:wQ} {nt:Nat} {ops:Array Oper} {recs:List Rec} {traj:List Eff} {tm0:T Value} {s h0:Heap} {base:Nat} {w0:World} {μ0:Loc} {sz:Nat}
def isDone(listed:Array Bool)(i:Nat):Prop:=listed[i]? =some true
structure SInv(ops:Array Oper)(recs:List Rec)(traj:List Eff)(tm0:T Value)(s h0:Heap)(w0:World)(μ0:Loc)(sz:Nat)(listed:Array Bool)(tmps:Array Value)(w:World)(μ:Loc)(tx:T Value)(done todo:List Eff)(m:Heap)(born:Nat):Prop where
 size:listed.size=ops.size
 closed:∀ (i:Nat) (r:Rec),recs[i]? =some r→isDone listed i→∀ e,e∈r.o.after.toList→Region.binds .any e=true→isDone listed e.on
 split:traj=done++todo
 din:∀ x:Eff,x∈done→isDone listed x.i
 tout:∀ x:Eff,x∈todo→¬ isDone listed x.i
 cur:qs h0 0 done=(m,born)
 go:Go1 μ0 s w0 μ m w
 tr:wi μ tx tmps
 tx1:∀ (t:Nat) (i:Nat) (r:Rec),recs[i]? =some r→isDone listed i→r.o.dst=some t→rdT tx t=r.v
 tx2:∀ (t:Nat),(∀ (i:Nat) (r:Rec),recs[i]? =some r→isDone listed i→r.o.dst≠some t)→rdT tx t=rdT tm0 t
 tsz:tmps.size=sz
 pend:∀ (i:Nat) (r:Rec),recs[i]? =some r→r.isA=true→isDone listed i→born.testBit i=false→∃ p,PendOK μ w w0 r p∧¬ Own μ m p.pb
 pinj:∀ (i j:Nat) (r q:Rec) (p p':Place),recs[i]? =some r→recs[j]? =some q→r.isA=true→q.isA=true→isDone listed i→isDone listed j→born.testBit i=false→born.testBit j=false→i≠j→μ r.id=some p→μ q.id=some p'→p.pb≠p'.pb
 unb:∀ (i:Nat) (r:Rec),recs[i]? =some r→r.isA=true→¬ isDone listed i→μ r.id=none
 non:∀ (i:Nat) (r:Rec),recs[i]? =some r→r.isA=true→born.testBit i=false→m.get r.id=none
 nxm:∀ (i:Nat) (r:Rec),recs[i]? =some r→r.isA=true→s.nx≤r.id∧r.id < m.nx
 bl:∀ (i:Nat),born.testBit i=true→isDone listed i
structure Shown(env:Env)(call:wQ)(nt:Nat)(ops:Array Oper)(recs:List Rec)(traj:List Eff)(tm0:T Value)(h0:Heap):Prop where
 len:recs.length=ops.size
 op:∀ (i:Nat) (r:Rec),recs[i]? =some r→ops[i]? =some r.o
 anc:∀ (i:Nat) (r:Rec),recs[i]? =some r→r.anc=wI (recs.take i) r.o.after.toList
 tmr:∀ (i:Nat) (r:Rec),recs[i]? =some r→∀ (t:Nat),(∀ (j:Nat) (q:Rec),j < i→recs[j]? =some q→q.o.dst=some t→rdT r.tm t=q.v)∧((∀ (j:Nat) (q:Rec),j < i→recs[j]? =some q→q.o.dst≠some t)→rdT r.tm t=rdT tm0 t)
 want:∀ (i:Nat) (r:Rec),recs[i]? =some r→r.want=wM ops.toList r.tm r.o
 off:∀ (i:Nat) (r:Rec),recs[i]? =some r→r.want=false→r.v=undef
 q:∀ (i:Nat) (r:Rec),recs[i]? =some r→r.want=true→r.kd=0→∃ h:Heap,opQ env h r.tm r.o.op=some r.v
 a:∀ (i:Nat) (r:Rec),recs[i]? =some r→r.want=true→r.kd=1→∃ mk,opA env r.tm r.o.op=some (mk,r.obj)∧r.v=mk r.id
 ainj:∀ (i j:Nat) (r q:Rec),recs[i]? =some r→recs[j]? =some q→r.isA=true→q.isA=true→r.id=q.id→i=j
 dst:∀ (i:Nat) (r:Rec) (t:Nat),recs[i]? =some r→r.o.dst=some t→t < nt
 e:∀ (i:Nat) (r:Rec),recs[i]? =some r→r.want=true→2≤r.kd→∃ x:Eff,x∈traj∧x.i=i
 trj:qx env call recs h0 0 traj
 edge:∀ (i:Nat) (r:Rec),recs[i]? =some r→∀ e,e∈r.o.after.toList→Region.binds .any e=true→e.on < i
 look:∀ (i k:Nat) (r q:Rec) (t:Nat),recs[i]? =some r→recs[k]? =some q→i≠k→q.o.dst=some t→r.o.dst≠some t∧(t∈qq ops.toList r.o→(k < i∧r.anc.testBit k=true)∨(i < k∧q.anc.testBit i=true))
 chain:ju recs traj=true
 quiet:∀ (i:Nat) (r:Rec),recs[i]? =some r→r.want=true→r.kd=0→jI r.o.op=true→quietP env recs r i [] traj h0 0
theorem vO(S:Shown env call nt ops recs traj tm0 h0){listed:Array Bool}(hc:∀ (i:Nat) (r:Rec),recs[i]? =some r→isDone listed i→∀ e,e∈r.o.after.toList→Region.binds .any e=true→isDone listed e.on):
  ∀ (i:Nat) (r:Rec),recs[i]? =some r→(∀ e,e∈r.o.after.toList→Region.binds .any e=true→isDone listed e.on)→∀ k,r.anc.testBit k=true→isDone listed k∧k < i:=by
 intro i
 induction i using Nat.strongRecOn with
 |_ i ih=>
  intro r hr hd k hk
  rw[S.anc i r hr] at hk
  obtain⟨e,he,hb,h⟩:=zfl hk
  have hlt:=S.edge i r hr e he hb
  have hdn:=hd e he hb
  rcases h with h|⟨q,hq,hqk⟩
  ·subst h;exact⟨hdn,hlt⟩
  ·have hq':recs[e.on]? =some q:=by
    rw[List.getElem?_take,if_pos hlt] at hq
    exact hq
   obtain⟨h1,h2⟩:=ih e.on hlt q hq' (hc e.on q hq' hdn) k hqk
   exact⟨h1,by omega⟩
section
variable {listed:Array Bool} {tmps:Array Value} {w:World} {μ:Loc} {tx:T Value} {done todo:List Eff} {m:Heap} {born:Nat}
theorem zcH(S:Shown env call nt ops recs traj tm0 h0)(I:SInv ops recs traj tm0 s h0 w0 μ0 sz listed tmps w μ tx done todo m born){i:Nat}{r:Rec}(hr:recs[i]? =some r)(hn:¬ isDone listed i)
  (hd:∀ e,e∈r.o.after.toList→Region.binds .any e=true→isDone listed e.on):∀ t,t∈qq ops.toList r.o→rdT r.tm t=rdT tx t:=by
 intro t ht
 by_cases hex:∃ (k:Nat) (q:Rec),recs[k]? =some q∧k≠i∧q.o.dst=some t
 ·obtain⟨k,q,hq,hki,hqt⟩:=hex
  obtain⟨_,hl⟩:=S.look i k r q t hr hq (fun e=>hki e.symm) hqt
  rcases hl ht with⟨h1,h2⟩|⟨h1,h2⟩
  ·have hdk:=(vO S I.closed i r hr hd k h2).1
   rw[I.tx1 t k q hq hdk hqt]
   exact(S.tmr i r hr t).1 k q h1 hq hqt
  ·have hnk:¬ isDone listed k:=by
    intro hdk
    exact hn (vO S I.closed k q hq (I.closed k q hq hdk) i h2).1
   rw[I.tx2 t,(S.tmr i r hr t).2]
   ·intro j p hj hp hpt
    by_cases hjk:j=k
    ·omega
    ·exact(S.look j k p q t hp hq hjk hqt).1 hpt
   ·intro j p hp hdj hpt
    by_cases hjk:j=k
    ·subst hjk;exact hnk hdj
    ·exact(S.look j k p q t hp hq hjk hqt).1 hpt
 ·rw[I.tx2 t,(S.tmr i r hr t).2]
  ·intro j p hj hp hpt
   exact hex ⟨j,p,hp,by omega,hpt⟩
  ·intro j p hp hdj hpt
   refine hex ⟨j,p,hp,?_,hpt⟩
   intro e;subst e;exact hn hdj
theorem zjf{o:Oper}{tm tm':T Value}(h:∀ t,t∈qq ops.toList o→rdT tm t=rdT tm' t):∀ x,x∈o.op.operands.toList→rd tm x=rd tm' x:=by
 intro x hx
 cases x with
 |tmp t=>
  have:t∈qq ops.toList o:=by
   unfold qq
   rw[List.mem_append]
   left
   rw[List.mem_filterMap]
   exact⟨.tmp t,hx,rfl⟩
  simp only[rd,h t this]
 |_=>rfl
theorem zp3{o:Oper}{tm tm':T Value}(h:∀ t,t∈qq ops.toList o→rdT tm t=rdT tm' t):wM ops.toList tm o=wM ops.toList tm' o:=by
 unfold wM
 cases hg:o.guard with
 |none=>rfl
 |some g=>
  obtain⟨j,want⟩:=g
  simp only
  have:um ops.toList tm j=um ops.toList tm' j:=by
   unfold um
   cases ho:ops.toList[j]? with
   |none=>rfl
   |some q=>
    simp only
    cases hd:q.dst with
    |none=>rfl
    |some d=>
     have:d∈qq ops.toList o:=by
      unfold qq
      rw[List.mem_append]
      right
      simp[hg,ho,hd]
     simp only[h d this]
  rw[this]
theorem zI{i j:Nat}(hi:i < listed.size):isDone (listed.setIfInBounds i true) j↔j=i∨isDone listed j:=by
 unfold isDone
 rw[Array.getElem?_setIfInBounds]
 by_cases e:i=j
 ·subst e;simp[hi]
 ·rw[if_neg e]
  constructor
  ·exact .inr
  ·rintro(h|h)
   ·exact absurd h.symm e
   ·exact h
theorem zbg(S:Shown env call nt ops recs traj tm0 h0)(I:SInv ops recs traj tm0 s h0 w0 μ0 sz listed tmps w μ tx done todo m born)(hnt:nt≤sz){i:Nat}{r:Rec}(hr:recs[i]? =some r)(hn:¬ isDone listed i)
  {ν:Loc} (hle:μ.le ν) {v':Value} (rv:VRel ν r.v v'):
  ∃ tx',wi ν tx' (Act.put ⟨tmps,[]⟩ r.o.dst v').tmps∧(Act.put ⟨tmps,[]⟩ r.o.dst v')=⟨(Act.put ⟨tmps,[]⟩ r.o.dst v').tmps,[]⟩∧(Act.put ⟨tmps,[]⟩ r.o.dst v').tmps.size=sz∧
   (∀ (t:Nat) (j:Nat) (q:Rec),recs[j]? =some q→(j=i∨isDone listed j)→q.o.dst=some t→rdT tx' t=q.v)∧
   (∀ (t:Nat),(∀ (j:Nat) (q:Rec),recs[j]? =some q→(j=i∨isDone listed j)→q.o.dst≠some t)→rdT tx' t=rdT tm0 t):=by
 cases hd:r.o.dst with
 |none=>
  refine⟨tx,I.tr.mono hle,rfl,I.tsz,?_,?_⟩
  ·rintro t j q hq (rfl|hj) hqt
   ·rw[hr] at hq;simp only[sJ] at hq;subst hq;rw[hd] at hqt;simp at hqt
   ·exact I.tx1 t j q hq hj hqt
  ·intro t h
   exact I.tx2 t (fun j q hq hj=>h j q hq (.inr hj))
 |some d=>
  have hdn:=S.dst i r d hr hd
  refine⟨tx.put d r.v,(I.tr.mono hle).put rv (by rw[I.tsz];omega),rfl,by simp[Act.put,I.tsz],?_,?_⟩
  ·rintro t j q hq (rfl|hj) hqt
   ·rw[hr] at hq;simp only[sJ] at hq;subst hq
    rw[hd] at hqt;simp only[sJ] at hqt;subst hqt
    simp[rdT,T.get_put]
   ·have hne:t≠d:=by
     rintro rfl
     have hji:j≠i:=by rintro rfl;exact hn hj
     exact(S.look j i q r t hq hr hji hd).1 hqt
    simp only[rdT,T.get_put,if_neg hne]
    exact I.tx1 t j q hq hj hqt
  ·intro t h
   have hne:t≠d:=by
    rintro rfl
    exact h i r hr (.inl rfl) hd
   simp only[rdT,T.get_put,if_neg hne]
   exact I.tx2 t (fun j q hq hj=>h j q hq (.inr hj))
theorem zbI(I:SInv ops recs traj tm0 s h0 w0 μ0 sz listed tmps w μ tx done todo m born){i:Nat}{r:Rec}(hr:recs[i]? =some r)(hi:i < listed.size)
  (hd:∀ e,e∈r.o.after.toList→Region.binds .any e=true→isDone listed e.on):
  ∀ (j:Nat) (q:Rec),recs[j]? =some q→isDone (listed.setIfInBounds i true) j→∀ e,e∈q.o.after.toList→Region.binds .any e=true→isDone (listed.setIfInBounds i true) e.on:=by
 intro j q hq hj e he hb
 rw[zI hi] at hj ⊢
 right
 rcases hj with rfl|hj
 ·rw[hr] at hq;simp only[sJ] at hq;subst hq
  exact hd e he hb
 ·exact I.closed j q hq hj e he hb
theorem zdM(S:Shown env call nt ops recs traj tm0 h0)(I:SInv ops recs traj tm0 s h0 w0 μ0 sz listed tmps w μ tx done todo m born)(hnt:nt≤sz){i:Nat}{r:Rec}(hr:recs[i]? =some r)(hn:¬ isDone listed i)(hi:i < listed.size)
  (hd:∀ e,e∈r.o.after.toList→Region.binds .any e=true→isDone listed e.on) (hna:r.isA=false) (hne:∀ x,x∈todo→x.i≠i) {v':Value} (rv:VRel μ r.v v'):
  ∃ tx' tmps',(Act.put ⟨tmps,[]⟩ r.o.dst v')=⟨tmps',[]⟩∧SInv ops recs traj tm0 s h0 w0 μ0 sz (listed.setIfInBounds i true) tmps' w μ tx' done todo m born:=by
 obtain⟨tx',t1,t2,t3,t4,t5⟩:=zbg S I hnt hr hn μ.le_refl rv
 refine⟨tx',_,t2,?_⟩
 refine⟨by simp[I.size],zbI I hr hi hd,I.split,fun x hx=>(zI hi).2 (.inr (I.din x hx)),fun x hx h=>?_,I.cur,I.go,t1,fun t j q hq hj=>t4 t j q hq ((zI hi).1 hj),fun t h=>t5 t (fun j q hq hj=>h j q hq ((zI hi).2 hj)),t3,?_,?_,?_,I.non,I.nxm,fun j hj=>(zI hi).2 (.inr (I.bl j hj))⟩
 ·rcases(zI hi).1 h with h|h
  ·exact hne x hx h
  ·exact I.tout x hx h
 ·intro j q hq ha hj hb
  rcases(zI hi).1 hj with rfl|hj
  ·rw[hr] at hq;simp only[sJ] at hq;subst hq;rw[hna] at ha;simp at ha
  ·exact I.pend j q hq ha hj hb
 ·intro j k q p pq pp hq hp ha ha' hj hk hb hb'
  rcases(zI hi).1 hj with rfl|hj
  ·rw[hr] at hq;simp only[sJ] at hq;subst hq;rw[hna] at ha;simp at ha
  ·rcases(zI hi).1 hk with rfl|hk
   ·rw[hr] at hp;simp only[sJ] at hp;subst hp;rw[hna] at ha';simp at ha'
   ·exact I.pinj j k q p pq pp hq hp ha ha' hj hk hb hb'
 ·intro j q hq ha hj
  exact I.unb j q hq ha (fun h=>hj ((zI hi).2 (.inr h)))
theorem zi3(S:Shown env call nt ops recs traj tm0 h0)(I:SInv ops recs traj tm0 s h0 w0 μ0 sz listed tmps w μ tx done todo m born)(hnt:nt≤sz){i:Nat}{r:Rec}(hr:recs[i]? =some r)(hn:¬ isDone listed i)(hi:i < listed.size)
  (hd:∀ e,e∈r.o.after.toList→Region.binds .any e=true→isDone listed e.on) (hra:r.isA=true) (hne:∀ x,x∈todo→x.i≠i) {v':Value} {u:World} {p:Place} {mk:Nat→Value} (N:NewObj μ w u p r.obj mk v') (hv:r.v=mk r.id):
  ∃ ν tx' tmps',(Act.put ⟨tmps,[]⟩ r.o.dst v')=⟨tmps',[]⟩∧SInv ops recs traj tm0 s h0 w0 μ0 sz (listed.setIfInBounds i true) tmps' u ν tx' done todo m born:=by
 have hunb:=I.unb i r hr hra hn
 have hbi:born.testBit i=false:=by
  cases hb:born.testBit i
  ·rfl
  ·exact absurd (I.bl i hb) hn
 obtain⟨g1,own⟩:=zrv I.go N (I.nxm i r hr hra).1 (I.nxm i r hr hra).2 (I.non i r hr hra hbi) hunb
 have hle:μ.le (μ.upd r.id p):=jF hunb
 have rel:=N.rel (μ.upd r.id p) r.id hle (zC _ _ _)
 obtain⟨tx',t1,t2,t3,t4,t5⟩:=zbg S I hnt hr hn hle (by rw[hv];exact rel.2)
 have hid:∀ (j:Nat) (q:Rec),recs[j]? =some q→q.isA=true→j≠i→q.id≠r.id:=fun j q hq ha hji e=>hji (S.ainj j i q r hq hr ha hra e)
 refine⟨μ.upd r.id p,tx',_,t2,?_⟩
 refine⟨by simp[I.size],zbI I hr hi hd,I.split,fun x hx=>(zI hi).2 (.inr (I.din x hx)),fun x hx h=>?_,I.cur,g1,t1,fun t j q hq hj=>t4 t j q hq ((zI hi).1 hj),fun t h=>t5 t (fun j q hq hj=>h j q hq ((zI hi).2 hj)),t3,?_,?_,?_,I.non,I.nxm,fun j hj=>(zI hi).2 (.inr (I.bl j hj))⟩
 ·rcases(zI hi).1 h with h|h
  ·exact hne x hx h
  ·exact I.tout x hx h
 ·intro j q hq ha hj hb
  by_cases hji:j=i
  ·subst hji
   rw[hr] at hq;simp only[sJ] at hq;subst hq
   refine⟨p,⟨zC _ _ _,fun ξ hξ=>(N.rel ξ r.id (Loc.le_trans hle hξ) (hξ _ _ (zC _ _ _))).1,by rw[N.pb,N.size];omega,by rw[N.pb];exact I.go.size⟩,fun ho=>?_⟩
   obtain⟨b,x,q,hb1,hq1,hpb⟩:=(own p.pb).1 ho
   have:=I.go.rep.bound b q hq1
   rw[hpb,N.pb] at this
   omega
  ·rcases(zI hi).1 hj with h|hj
   ·exact absurd h hji
   obtain⟨p',pk,hown⟩:=I.pend j q hq ha hj hb
   exact⟨p',⟨by rw[zq _ _ _ _ (hid j q hq ha hji)];exact pk.at_,fun ξ hξ=>(pk.rel ξ (Loc.le_trans hle hξ)).world (N.old _ pk.lt),by have:=pk.lt;rw[N.size];omega,pk.ge⟩,fun ho=>hown ((own _).1 ho)⟩
 ·intro j k q q' pq pq' hq hq' ha ha' hj hk hb hb' hjk h1 h2
  have hpb:∀ (l:Nat) (x:Rec) (px:Place),recs[l]? =some x→x.isA=true→isDone (listed.setIfInBounds i true) l→born.testBit l=false→l≠i→(μ.upd r.id p) x.id=some px→px.pb < w.heap.size∧μ x.id=some px:=by
   intro l x px hx hxa hxd _ hli hpx
   rw[zq _ _ _ _ (hid l x hx hxa hli)] at hpx
   exact⟨I.go.rep.bound _ _ hpx,hpx⟩
  by_cases hji:j=i <;>by_cases hki:k=i
  ·omega
  ·subst hji
   rw[hr] at hq;simp only[sJ] at hq;subst hq
   rw[zC] at h1;simp only[sJ] at h1;subst h1
   have:=(hpb k q' pq' hq' ha' hk hb' hki h2).1
   rw[N.pb];omega
  ·subst hki
   rw[hr] at hq';simp only[sJ] at hq';subst hq'
   rw[zC] at h2;simp only[sJ] at h2;subst h2
   have:=(hpb j q pq hq ha hj hb hji h1).1
   rw[N.pb];omega
  ·have hj':isDone listed j:=by
    rcases(zI hi).1 hj with h|h
    ·exact absurd h hji
    ·exact h
   have hk':isDone listed k:=by
    rcases(zI hi).1 hk with h|h
    ·exact absurd h hki
    ·exact h
   exact I.pinj j k q q' pq pq' hq hq' ha ha' hj' hk' hb hb' hjk (hpb j q pq hq ha hj hb hji h1).2 (hpb k q' pq' hq' ha' hk hb' hki h2).2
 ·intro j q hq ha hj
  have hji:j≠i:=by rintro rfl;exact hj ((zI hi).2 (.inl rfl))
  rw[zq _ _ _ _ (hid j q hq ha hji)]
  exact I.unb j q hq ha (fun h=>hj ((zI hi).2 (.inr h)))
theorem zec(S:Shown env call nt ops recs traj tm0 h0)(I:SInv ops recs traj tm0 s h0 w0 μ0 sz listed tmps w μ tx done todo m born){mask:Nat}(hm:∀ k,mask.testBit k=true→isDone listed k)(n:Nat):
  Go1 μ0 s w0 μ (wv mask born (recs.take n) 0 m) w∧
   (∀ kk,Own μ (wv mask born (recs.take n) 0 m) kk→Own μ m kk∨∃ (j:Nat) (r:Rec) (p:Place),recs[j]? =some r∧r.isA=true∧mask.testBit j=true∧born.testBit j=false∧μ r.id=some p∧kk=p.pb)∧
   (∀ b,m.get b=none→(∀ (j:Nat) (r:Rec),recs[j]? =some r→r.isA=true→mask.testBit j=true→born.testBit j=false→r.id≠b)→(wv mask born (recs.take n) 0 m).get b=none):=by
 have htake:∀ (j:Nat) (r:Rec),(recs.take n)[j]? =some r→recs[j]? =some r:=by
  intro j r h
  rw[List.getElem?_take] at h
  by_cases hjn:j < n
  ·rw[if_pos hjn] at h;exact h
  ·rw[if_neg hjn] at h;exact absurd h (by simp)
 obtain⟨c1,c2,c3⟩:=zr3 (μ0:=μ0) (s:=s) (w0:=w0) (μ:=μ) (w:=w) mask born (recs.take n) 0 m I.go (fun j r hj ha h1 h2=>by
   rw[Nat.zero_add] at h1 h2
   obtain⟨p,pk,hown⟩:=I.pend j r (htake j r hj) ha (hm j h1) h2
   exact⟨p,pk,I.non j r (htake j r hj) ha h2,(I.nxm j r (htake j r hj) ha).2,hown⟩) (fun j j' r r' hj hj' hne ha ha' h1 h2 h3 h4=>by
   rw[Nat.zero_add] at h1 h2 h3 h4
   refine⟨fun e=>hne (S.ainj j j' r r' (htake j r hj) (htake j' r' hj') ha ha' e),fun p p' hp hp'=>?_⟩
   exact I.pinj j j' r r' p p' (htake j r hj) (htake j' r' hj') ha ha' (hm j h1) (hm j' h3) h2 h4 hne hp hp')
 refine⟨c1,fun kk hk=>?_,fun b h1 h2=>c3 b h1 (fun j r hj ha h3 h4=>h2 j r (htake j r hj) ha (by simpa using h3) (by simpa using h4))⟩
 rcases c2 kk hk with h|⟨j,r,p,a1,a2,a3,a4,a5,a6⟩
 ·exact .inl h
 ·exact .inr ⟨j,r,p,htake j r a1,a2,by simpa using a3,by simpa using a4,a5,a6⟩
end
end
section
variable {P:Program} {env:Env} {call:wQ} {nt:Nat} {ops:Array Oper} {recs:List Rec} {traj:List Eff} {tm0:T Value} {s h0:Heap} {base:Nat} {w0:World} {μ0:Loc} {sz:Nat}
variable {listed:Array Bool} {tmps:Array Value} {w:World} {μ:Loc} {tx:T Value} {done todo:List Eff} {m:Heap} {born:Nat}
theorem zuY(S:Shown env call nt ops recs traj tm0 h0):∀ (i:Nat) (r:Rec),recs[i]? =some r→∀ k,r.anc.testBit k=true→k < i:=by
 intro i
 induction i using Nat.strongRecOn with
 |_ i ih=>
  intro r hr k hk
  rw[S.anc i r hr] at hk
  obtain⟨e,he,hb,h⟩:=zfl hk
  have hlt:=S.edge i r hr e he hb
  rcases h with h|⟨q,hq,hqk⟩
  ·omega
  ·rw[List.getElem?_take,if_pos hlt] at hq
   have:=ih e.on hlt q hq k hqk
   omega
theorem zhj(recs:List Rec):∀ (l1:List Eff) (a b:Eff) (l2:List Eff),ju recs (l1++a::b::l2)=true→∃ r,recs[b.i]? =some r∧r.anc.testBit a.i=true:=by
 intro l1
 induction l1 with
 |nil=>
  intro a b l2 h
  simp only[List.nil_append,ju,bA] at h
  cases hb:recs[b.i]? with
  |none=>rw[hb] at h;simp at h
  |some r=>rw[hb] at h;exact⟨r,rfl,h.1⟩
 |cons y l1 ih=>
  intro a b l2 h
  refine ih a b l2 ?_
  cases l1 with
  |nil=>
   simp only[List.cons_append,List.nil_append,ju,bA] at h ⊢
   exact h.2
  |cons z l1=>
   simp only[List.cons_append,ju,bA] at h ⊢
   exact h.2
theorem zpa(S:Shown env call nt ops recs traj tm0 h0):∀ (l2 l1:List Eff) (a:Eff),traj=l1++a::l2→∀ y,y∈l2→a.i < y.i:=by
 intro l2
 induction l2 with
 |nil=>intro l1 a _ y hy;simp at hy
 |cons b l2 ih=>
  intro l1 a e y hy
  have hc:=S.chain
  rw[e] at hc
  obtain⟨r,hr,hb⟩:=zhj recs l1 a b l2 hc
  have h1:=zuY S b.i r hr a.i hb
  rcases List.mem_cons.1 hy with rfl|hy
  ·exact h1
  ·have:=ih (l1++[a]) b (by rw[e];simp) y hy
   omega
theorem zev(env:Env)(call:wQ)(recs:List Rec):∀ (l1:List Eff) (h:Heap) (b:Nat) (x:Eff) (l2:List Eff),qx env call recs h b (l1++x::l2)→zf3 env call recs (qs h b l1).1 (qs h b l1).2 x:=by
 intro l1
 induction l1 with
 |nil=>intro h b x l2 t;exact t.1
 |cons y l1 ih=>intro h b x l2 t;exact ih y.post y.born x l2 t.2
theorem zoM(S:Shown env call nt ops recs traj tm0 h0)(I:SInv ops recs traj tm0 s h0 w0 μ0 sz listed tmps w μ tx done todo m born){i:Nat}{r:Rec}(hr:recs[i]? =some r)(hn:¬ isDone listed i)
  (hd:∀ e,e∈r.o.after.toList→Region.binds .any e=true→isDone listed e.on) (hw:r.want=true) (hk:2≤r.kd):
  ∃ (x:Eff) (todo':List Eff),todo=x::todo'∧x.i=i∧(∀ y:Eff,y∈todo'→i < y.i)∧x.pre=wv r.anc born (recs.take i) 0 m∧opE env call x.pre r.tm r.o.op=some (r.v,x.post)∧x.born=yK r.anc born:=by
 obtain⟨x,hx,hxi⟩:=S.e i r hr hw hk
 rw[I.split] at hx
 have hxt:x∈todo:=by
  rcases List.mem_append.1 hx with h|h
  ·exact absurd (hxi▸I.din x h) hn
  ·exact h
 obtain⟨l1,l2,e⟩:=List.append_of_mem hxt
 have hl1:l1=[]:=by
  rcases List.eq_nil_or_concat l1 with h|⟨l1',a,h⟩
  ·exact h
  ·exfalso
   rw[List.concat_eq_append] at h
   have hc:=S.chain
   rw[I.split,e,h] at hc
   obtain⟨q,hq,hb⟩:=zhj recs (done++l1') a x l2 (by simpa using hc)
   rw[hxi,hr] at hq
   simp only[sJ] at hq;subst hq
   have hda:=(vO S I.closed i r hr hd a.i hb).1
   exact I.tout a (by rw[e,h];simp) hda
 subst hl1
 rw[List.nil_append] at e
 have hsp:=I.split
 rw[e] at hsp
 have ht:=S.trj
 rw[hsp] at ht
 obtain⟨q,hq,_,_,h1,h2,h3⟩:=zev env call recs done h0 0 x l2 ht
 rw[I.cur] at h1 h3
 rw[hxi,hr] at hq
 simp only[sJ] at hq;subst hq
 rw[hxi] at h1
 refine⟨x,l2,e,hxi,fun y hy=>?_,h1,h2,h3⟩
 rw[← hxi]
 exact zpa S l2 done x hsp y hy
theorem zmU(S:Shown env call nt ops recs traj tm0 h0)(x:Eff)(hx:x∈traj):∃ r,recs[x.i]? =some r∧2≤r.kd:=by
 obtain⟨l1,l2,e⟩:=List.append_of_mem hx
 have ht:=S.trj
 rw[e] at ht
 obtain⟨q,hq,_,hk,_⟩:=zev env call recs l1 h0 0 x l2 ht
 exact⟨q,hq,hk⟩
theorem zlL{r:Rec}(h:r.isA=true):r.want=true∧r.kd=1:=by
 unfold Rec.isA at h
 rw[bA] at h
 exact⟨h.1,nB_ h.2⟩
theorem zm1(E:EnvOK P env)(C:js P call)(CK:wa call)(S:Shown env call nt ops recs traj tm0 h0)(I:SInv ops recs traj tm0 s h0 w0 μ0 sz listed tmps w μ tx done todo m born)(hnt:nt≤sz){i:Nat}{r:Rec}(hr:recs[i]? =some r)(hn:¬ isDone listed i)(hi:i < listed.size)
  (hd:∀ e,e∈r.o.after.toList→Region.binds .any e=true→isDone listed e.on) (hw:r.want=true) (hk:2≤r.kd) {next:Act→World→Prop} {Q:Exit→Act→World→Prop}
  (hnx:∀ (u:World) (ν:Loc) (tx':T Value) (tmps':Array Value) (done' todo':List Eff) (m':Heap) (born':Nat),SInv ops recs traj tm0 s h0 w0 μ0 sz (listed.setIfInBounds i true) tmps' u ν tx' done' todo' m' born'→next ⟨tmps',[]⟩ u):r.o.wp P ⟨tmps,[]⟩ w next Q:=by
 obtain⟨x,todo',htd,hxi,hlt,hpre,hop,hborn⟩:=zoM S I hr hn hd hw hk
 have hanc:=vO S I.closed i r hr hd
 obtain⟨gb,bown,bno⟩:=zec S I (mask:=r.anc) (fun k h=>(hanc k h).1) i
 rw[← hpre] at gb bown bno
 have hnxm:x.pre.nx=m.nx:=by rw[hpre,zr4]
 have hop':opE env call x.pre tx r.o.op=some (r.v,x.post):=by
  rw[← hop]
  exact(zlt (zjf (zcH S I hr hn hd))).symm
 have kp:=zds CK hop'
 have hnotA:∀ (j:Nat) (q:Rec),recs[j]? =some q→q.isA=true→j≠i:=by
  rintro j q hq ha rfl
  rw[hr] at hq;simp only[sJ] at hq;subst hq
  have:=(zlL ha).2
  omega
 refine zl3 E gb.rep I.tr C hop' (fun u ν v' g rv=>?_)
 obtain⟨tx',t1,t2,t3,t4,t5⟩:=zbg S I hnt hr hn g.ext rv
 rw[t2]
 have hnotown:∀ (j:Nat) (q:Rec) (p:Place),recs[j]? =some q→q.isA=true→isDone listed j→born.testBit j=false→r.anc.testBit j=false→μ q.id=some p→¬ Own μ m p.pb→¬ Own μ x.pre p.pb:=by
  intro j q p hq ha hj hb hb2 hp hown ho
  rcases bown _ ho with h|⟨j',q',p',a1,a2,a3,a4,a5,a6⟩
  ·exact hown h
  ·have hne:j≠j':=by rintro rfl;rw[hb2] at a3;simp at a3
   exact I.pinj j j' q q' p p' hq a1 ha a2 hj (hanc j' a3).1 hb a4 hne hp a5 a6
 have hbb:∀ j,x.born.testBit j=false→born.testBit j=false∧r.anc.testBit j=false:=by
  intro j h
  rw[hborn] at h
  unfold yK at h
  rw[Nat.testBit_or,Bool.or_eq_false_iff] at h
  exact h
 refine hnx u ν tx' _ (done++[x]) todo' x.post x.born ?_
 refine⟨by simp[I.size],zbI I hr hi hd,by rw[I.split,htd];simp,?_,?_,zea _ _ _ _,gb.trans g,t1,fun t j q hq hj=>t4 t j q hq ((zI hi).1 hj),fun t h=>t5 t (fun j q hq hj=>h j q hq ((zI hi).2 hj)),t3,?_,?_,?_,?_,?_,?_⟩
 ·intro y hy
  rw[zI hi]
  rcases List.mem_append.1 hy with h|h
  ·exact .inr (I.din y h)
  ·rw[List.mem_singleton] at h;subst h;exact .inl hxi
 ·intro y hy h
  rcases(zI hi).1 h with h|h
  ·have:=hlt y hy;omega
  ·exact I.tout y (by rw[htd];exact List.mem_cons_of_mem _ hy) h
 ·intro j q hq ha hj hb
  obtain⟨hb1,hb2⟩:=hbb j hb
  have hji:=hnotA j q hq ha
  have hj':isDone listed j:=by
   rcases(zI hi).1 hj with h|h
   ·exact absurd h hji
   ·exact h
  obtain⟨p,pk,hown⟩:=I.pend j q hq ha hj' hb1
  have hno:=hnotown j q p hq ha hj' hb1 hb2 pk.at_ hown
  refine⟨p,⟨g.ext _ _ pk.at_,fun ξ hξ=>(pk.rel ξ (Loc.le_trans g.ext hξ)).world (g.frame _ pk.lt hno),nU pk.lt g.size,pk.ge⟩,fun ho=>hno (g.own _ ho pk.lt)⟩
 ·intro j k q q' p p' hq hq' ha ha' hj hk2 hb hb' hjk h1 h2
  have hj':isDone listed j:=by
   rcases(zI hi).1 hj with h|h
   ·exact absurd h (hnotA j q hq ha)
   ·exact h
  have hk':isDone listed k:=by
   rcases(zI hi).1 hk2 with h|h
   ·exact absurd h (hnotA k q' hq' ha')
   ·exact h
  obtain⟨p1,pk1,_⟩:=I.pend j q hq ha hj' (hbb j hb).1
  obtain⟨p2,pk2,_⟩:=I.pend k q' hq' ha' hk' (hbb k hb').1
  have e1:=g.ext _ _ pk1.at_
  have e2:=g.ext _ _ pk2.at_
  rw[h1] at e1;rw[h2] at e2
  simp only[sJ] at e1 e2
  subst e1;subst e2
  exact I.pinj j k q q' _ _ hq hq' ha ha' hj' hk' (hbb j hb).1 (hbb k hb').1 hjk pk1.at_ pk2.at_
 ·intro j q hq ha hj
  have h:=I.unb j q hq ha (fun h=>hj ((zI hi).2 (.inr h)))
  rw[g.low _ (by rw[hnxm];exact(I.nxm j q hq ha).2)]
  exact h
 ·intro j q hq ha hb
  obtain⟨hb1,hb2⟩:=hbb j hb
  refine kp.no _ (by rw[hnxm];exact(I.nxm j q hq ha).2) (bno _ (I.non j q hq ha hb1) ?_)
  intro j' q' hq' ha' h1 _ hid
  have:=S.ainj j' j q' q hq' hq ha' ha hid
  subst this
  rw[hb2] at h1;simp at h1
 ·intro j q hq ha
  have h1:=I.nxm j q hq ha
  have h2:=kp.nx
  rw[hnxm] at h2
  exact⟨h1.1,by omega⟩
 ·intro j hb
  rw[zI hi]
  right
  rw[hborn] at hb
  unfold yK at hb
  rw[Nat.testBit_or,Bool.or_eq_true] at hb
  rcases hb with h|h
  ·exact I.bl j h
  ·exact(hanc j h).1
theorem znt(env:Env)(recs:List Rec)(r:Rec)(i:Nat):∀ (a d0:List Eff) (b:List Eff) (cur:Heap) (born:Nat),quietP env recs r i d0 (a++b) cur born→
  quietP env recs r i (d0++a) b (qs cur born a).1 (qs cur born a).2:=by
 intro a
 induction a with
 |nil=>intro d0 b cur born h;simpa[qs] using h
 |cons x a ih=>
  intro d0 b cur born h
  rw[List.cons_append,quietP] at h
  have:=ih (d0++[x]) b x.post x.born h.2
  simpa[qs] using this
theorem zjp(S:Shown env call nt ops recs traj tm0 h0)(I:SInv ops recs traj tm0 s h0 w0 μ0 sz listed tmps w μ tx done todo m born){i:Nat}{r:Rec}(hr:recs[i]? =some r)(hn:¬ isDone listed i)
  (hd:∀ e,e∈r.o.after.toList→Region.binds .any e=true→isDone listed e.on) (hw:r.want=true) (hk:r.kd=0):∃ g:Heap,Rep μ g w∧opQ env g tx r.o.op=some r.v:=by
 have htm:∀ g,opQ env g r.tm r.o.op=opQ env g tx r.o.op:=fun g=>zgD (zjf (zcH S I hr hn hd))
 cases hu:jI r.o.op with
 |false=>
  obtain⟨h,e⟩:=S.q i r hr hw hk
  exact⟨m,I.go.rep,by rw[← htm,znJ hu (h':=h)];exact e⟩
 |true=>
  have q:=S.quiet i r hr hw hk hu
  rw[I.split] at q
  have q2:=znt env recs r i done [] todo h0 0 q
  rw[List.nil_append,I.cur] at q2
  unfold quietP at q2
  have q3:=q2.1
  rw[Bool.or_eq_true] at q3
  obtain⟨gb,_,_⟩:=zec S I (mask:=r.anc) (fun k h=>(vO S I.closed i r hr hd k h).1) i
  rcases q3 with(h|h)|h
  ·exfalso
   rw[List.any_eq_true] at h
   obtain⟨x,hx,hb⟩:=h
   obtain⟨p,hp,_⟩:=zmU S x (by rw[I.split];exact List.mem_append_left _ hx)
   rw[hp] at hb
   exact hn (vO S I.closed x.i p hp (I.closed x.i p hp (I.din x hx)) i hb).1
  ·exfalso
   rw[List.any_eq_true] at h
   obtain⟨x,hx,hb⟩:=h
   exact I.tout x hx (vO S I.closed i r hr hd x.i hb).1
  ·refine⟨_,gb.rep,?_⟩
   rw[← htm]
   exact h
theorem zns(env:Env)(recs:List Rec)(r:Rec)(i:Nat):∀ (b d:List Eff) (cur:Heap) (born:Nat),quietOK env recs r i d b cur born=true→quietP env recs r i d b cur born:=by
 intro b
 induction b with
 |nil=>
  intro d cur born h
  unfold quietOK at h
  unfold quietP
  rw[bA,Bool.or_eq_true] at h
  refine⟨?_,trivial⟩
  rcases h.1 with h|h
  ·exact .inl h
  ·right
   cases hq:opQ env (wv r.anc born (recs.take i) 0 cur) r.tm r.o.op with
   |none=>simp only[hq] at h;exact absurd h (by simp)
   |some v=>simp only[hq] at h;rw[zkz 3 v r.v h]
 |cons x b ih=>
  intro d cur born h
  unfold quietOK at h
  unfold quietP
  rw[bA,Bool.or_eq_true] at h
  refine⟨?_,ih _ _ _ h.2⟩
  rcases h.1 with h|h
  ·exact .inl h
  ·right
   cases hq:opQ env (wv r.anc born (recs.take i) 0 cur) r.tm r.o.op with
   |none=>simp only[hq] at h;exact absurd h (by simp)
   |some v=>simp only[hq] at h;rw[zkz 3 v r.v h]
end
section
variable {P:Program} {env:Env} {call:wQ} {nt:Nat} {ops:Array Oper} {recs:List Rec} {traj:List Eff} {tm0:T Value} {s h0:Heap} {base:Nat} {w0:World} {μ0:Loc} {sz:Nat}
def left(l:Array Bool):Nat→Nat
 |0=>0
 |n+1=>left l n+(if l.getD n true then 0 else 1)
theorem zrd(l:Array Bool):∀ n,left l n≤n:=by
 intro n
 induction n with
 |zero=>exact nL_ _
 |succ n ih=>simp only[left];split <;>omega
theorem zlH(l:Array Bool):∀ n,left l n=0→∀ i,i < n→l.getD i true=true:=by
 intro n
 induction n with
 |zero=>intro _ i hi;omega
 |succ n ih=>
  intro h i hi
  simp only[left] at h
  by_cases e:i=n
  ·subst e
   cases hb:l.getD i true with
   |true=>rfl
   |false=>rw[hb] at h;simp at h
  ·exact ih (by omega) i (by omega)
theorem zot(l:Array Bool)(i k:Nat)(hi:i < l.size):(l.setIfInBounds i true).getD k true=if k=i then true else l.getD k true:=by
 rw[Array.getD_eq_getD_getElem?,Array.getD_eq_getD_getElem?,Array.getElem?_setIfInBounds]
 by_cases e:i=k
 ·subst e;simp[hi]
 ·rw[if_neg e,if_neg (fun h=>e h.symm)]
theorem zoc(l:Array Bool)(i:Nat)(hi:i < l.size)(hb:l.getD i true=false):∀ n,(n≤i→left (l.setIfInBounds i true) n=left l n)∧(i < n→left (l.setIfInBounds i true) n+1=left l n):=by
 intro n
 induction n with
 |zero=>exact⟨fun _=>rfl,fun h=>by omega⟩
 |succ n ih=>
  simp only[left,zot l i n hi]
  refine⟨fun h=>?_,fun h=>?_⟩
  ·rw[ih.1 (by omega),if_neg (by omega:¬ n=i)]
  ·by_cases e:n=i
   ·subst e
    rw[ih.1 (nL_ _),if_pos rfl,hb];simp
   ·rw[if_neg e]
    have:=ih.2 (by omega)
    omega
theorem zhe(l:Array Bool)(k:Nat):l.getD k false=true↔isDone l k:=by
 unfold isDone
 rw[Array.getD_eq_getD_getElem?]
 cases l[k]? with
 |none=>simp
 |some b=>simp
theorem zdj(l:Array Bool)(k:Nat)(h:l.getD k true=false):¬ isDone l k∧k < l.size:=by
 unfold isDone
 rw[Array.getD_eq_getD_getElem?] at h
 cases e:l[k]? with
 |none=>rw[e] at h;simp at h
 |some b=>
  rw[e] at h
  refine⟨fun hb=>?_,(Array.getElem?_eq_some_iff.1 e).1⟩
  simp only[sJ] at hb;subst hb
  simp at h
theorem zim(l:Array Bool)(k:Nat)(hk:k < l.size)(h:l.getD k true=true):isDone l k:=by
 unfold isDone
 rw[Array.getD_eq_getD_getElem?] at h
 have e:l[k]? =some l[k]:=Array.getElem?_eq_getElem hk
 rw[e] at h ⊢
 simpa using h
section
variable {listed:Array Bool} {tmps:Array Value} {w:World} {μ:Loc} {tx:T Value} {done todo:List Eff} {m:Heap} {born:Nat}
theorem zbZ(S:Shown env call nt ops recs traj tm0 h0)(x:Eff)(hx:x∈traj):∃ r,recs[x.i]? =some r∧r.want=true∧2≤r.kd:=by
 obtain⟨l1,l2,e⟩:=List.append_of_mem hx
 have ht:=S.trj
 rw[e] at ht
 obtain⟨q,hq,hw,hk,_⟩:=zev env call recs l1 h0 0 x l2 ht
 exact⟨q,hq,hw,hk⟩
theorem zhn(S:Shown env call nt ops recs traj tm0 h0)(I:SInv ops recs traj tm0 s h0 w0 μ0 sz listed tmps w μ tx done todo m born){tmF:T Value}{curF:Heap}{bornF:Nat}
  (htm:∀ (t:Nat),(∀ (i:Nat) (r:Rec),recs[i]? =some r→r.o.dst=some t→rdT tmF t=r.v)∧((∀ (i:Nat) (r:Rec),recs[i]? =some r→r.o.dst≠some t)→rdT tmF t=rdT tm0 t))
  (hcur:qs h0 0 traj=(curF,bornF)) (hall:∀ i,i < ops.size→isDone listed i):
  Go1 μ0 s w0 μ (wv (2 ^ ops.size - 1) bornF recs 0 curF) w∧wi μ tmF tmps:=by
 have hlt:∀ (i:Nat) (r:Rec),recs[i]? =some r→i < ops.size:=fun i r h=>by rw[← S.len];exact(List.getElem?_eq_some_iff.1 h).1
 have htd:todo=[]:=by
  cases todo with
  |nil=>rfl
  |cons x l=>
   exfalso
   obtain⟨r,hr,_⟩:=zbZ S x (by rw[I.split];simp)
   exact I.tout x (by simp) (hall _ (hlt _ _ hr))
 have hsp:=I.split
 rw[htd,List.append_nil] at hsp
 have hc:=I.cur
 rw[← hsp,hcur] at hc
 simp only[pJ] at hc
 obtain⟨rfl,rfl⟩:=hc
 refine⟨?_,?_⟩
 ·have:=(zec S I (mask:=2 ^ ops.size - 1) (fun k hk=>by
   rw[Nat.testBit_two_pow_sub_one] at hk
   exact hall k (by simpa using hk)) ops.size).1
  rw[← S.len,List.take_length] at this
  rw[← S.len];exact this
 ·have heq:∀ t,rdT tmF t=rdT tx t:=by
   intro t
   by_cases hex:∃ (i:Nat) (r:Rec),recs[i]? =some r∧r.o.dst=some t
   ·obtain⟨i,r,hr,hd⟩:=hex
    rw[(htm t).1 i r hr hd,I.tx1 t i r hr (hall i (hlt i r hr)) hd]
   ·rw[(htm t).2 (fun i r hr hd=>hex ⟨i,r,hr,hd⟩),I.tx2 t (fun i r hr _ hd=>hex ⟨i,r,hr,hd⟩)]
  refine⟨I.tr.1,fun t=>?_⟩
  rw[heq t]
  exact I.tr.2 t
theorem zk2(S:Shown env call nt ops recs traj tm0 h0)(hs:listed.size=ops.size)(h:Region.ready .any ops listed=[]):∀ i,i < ops.size→isDone listed i:=by
 intro i
 induction i using Nat.strongRecOn with
 |_ i ih=>
  intro hi
  cases hb:listed.getD i true with
  |true=>exact zim listed i (by omega) hb
  |false=>
   exfalso
   have hrl:i < recs.length:=by rw[S.len];exact hi
   have hr:recs[i]? =some recs[i]:=List.getElem?_eq_getElem hrl
   have:i∈Region.ready .any ops listed:=by
    rw[mem_ready]
    refine⟨hb,_,S.op i _ hr,fun e he hbd=>?_⟩
    have hlt:=S.edge i _ hr e (Array.mem_toList_iff.2 he) hbd
    exact(zhe listed e.on).2 (ih e.on hlt (by omega))
   rw[h] at this
   simp at this
theorem zm9(E:EnvOK P env)(C:js P call)(CK:wa call)(S:Shown env call nt ops recs traj tm0 h0)(I:SInv ops recs traj tm0 s h0 w0 μ0 sz listed tmps w μ tx done todo m born)(hnt:nt≤sz){i:Nat}(hi:i∈Region.ready .any ops listed)
  {K:Act→World→Prop} {Q:Exit→Act→World→Prop}
  (hK:∀ (u:World) (ν:Loc) (tx':T Value) (tmps':Array Value) (done' todo':List Eff) (m':Heap) (born':Nat),SInv ops recs traj tm0 s h0 w0 μ0 sz (listed.setIfInBounds i true) tmps' u ν tx' done' todo' m' born'→K ⟨tmps',[]⟩ u):
  wpOp P ops Q i K ⟨tmps,[]⟩ w:=by
 obtain⟨hb,o,ho,hdep⟩:=mem_ready.1 hi
 obtain⟨hn,hsz⟩:=zdj listed i hb
 have hrl:i < recs.length:=by rw[S.len,← I.size];exact hsz
 obtain⟨r,hr⟩:∃ r,recs[i]? =some r:=⟨_,List.getElem?_eq_getElem hrl⟩
 have hro:=S.op i r hr
 rw[ho] at hro
 simp only[sJ] at hro
 subst hro
 have hd:∀ e,e∈r.o.after.toList→Region.binds .any e=true→isDone listed e.on:=fun e he hbd=>(zhe listed e.on).1 (hdep e (Array.mem_toList_iff.1 he) hbd)
 have hwant:Region.wanted r.o (yielded ops tmps)=r.want:=by
  rw[← ze5 I.tr ops r.o,S.want i r hr]
  exact(zp3 (zcH S I hr hn hd)).symm
 unfold wpOp
 rw[ho]
 simp only[hwant]
 cases hw:r.want with
 |false=>
  simp only[Bool.false_eq_true,if_false]
  obtain⟨tx',tmps',e,I'⟩:=zdM S I hnt hr hn hsz hd (by simp[Rec.isA,hw]) (fun x hx hxi=>by
   obtain⟨q,hq,hqw,_⟩:=zbZ S x (by rw[I.split];exact List.mem_append_right _ hx)
   rw[hxi,hr] at hq;simp only[sJ] at hq;subst hq
   rw[hw] at hqw;simp at hqw) (v':=undef) (by rw[S.off i r hr hw];exact VRel.undef)
  rw[e]
  exact hK _ _ _ _ _ _ _ _ I'
 |true=>
  simp only[if_true]
  left
  by_cases hk:2≤r.kd
  ·exact zm1 E C CK S I hnt hr hn hsz hd hw hk hK
  ·have hne:∀ x,x∈todo→x.i≠i:=fun x hx hxi=>by
    obtain⟨q,hq,_,hqk⟩:=zbZ S x (by rw[I.split];exact List.mem_append_right _ hx)
    rw[hxi,hr] at hq;simp only[sJ] at hq;subst hq
    exact hk hqk
   by_cases hk1:r.kd=1
   ·obtain⟨mk,ha,hv⟩:=S.a i r hr hw hk1
    have ha':opA env tx r.o.op=some (mk,r.obj):=by
     rw[← ha];exact(zlu (zjf (zcH S I hr hn hd))).symm
    obtain⟨v',u,p,hrun,N⟩:=zhm (w:=w) (ds:=[]) E I.tr ha'
    refine jk hrun ?_
    obtain⟨ν,tx',tmps',e,I'⟩:=zi3 S I hnt hr hn hsz hd (by simp[Rec.isA,hw,hk1]) hne N hv
    rw[e]
    exact hK _ _ _ _ _ _ _ _ I'
   ·have hk0:r.kd=0:=by omega
    obtain⟨g,Rg,hq⟩:=zjp S I hr hn hd hw hk0
    obtain⟨v',hrun,rv⟩:=zgA (ds:=[]) E Rg I.tr hq
    refine jk hrun ?_
    obtain⟨tx',tmps',e,I'⟩:=zdM S I hnt hr hn hsz hd (by simp only[Rec.isA,hk0,hw];rfl) hne rv
    rw[e]
    exact hK _ _ _ _ _ _ _ _ I'
end
theorem zqj(E:EnvOK P env)(C:js P call)(CK:wa call)(S:Shown env call nt ops recs traj tm0 h0)(hnt:nt≤sz){tmF:T Value}{curF:Heap}{bornF:Nat}
  (htm:∀ (t:Nat),(∀ (i:Nat) (r:Rec),recs[i]? =some r→r.o.dst=some t→rdT tmF t=r.v)∧((∀ (i:Nat) (r:Rec),recs[i]? =some r→r.o.dst≠some t)→rdT tmF t=rdT tm0 t))
  (hcur:qs h0 0 traj=(curF,bornF)) {Q:Exit→Act→World→Prop}
  (hQ:∀ u ν tmps',Go1 μ0 s w0 ν (wv (2 ^ ops.size - 1) bornF recs 0 curF) u→wi ν tmF tmps'→tmps'.size=sz→Q .normal ⟨tmps',[]⟩ u):
  ∀ (fuel:Nat) (listed:Array Bool) (tmps:Array Value) (w:World) (μ:Loc) (tx:T Value) (done todo:List Eff) (m:Heap) (born:Nat),left listed ops.size≤fuel→
   SInv ops recs traj tm0 s h0 w0 μ0 sz listed tmps w μ tx done todo m born→wpAny P .any ops Q fuel listed ⟨tmps,[]⟩ w:=by
 intro fuel
 induction fuel with
 |zero=>
  intro listed tmps w μ tx done todo m born hl I
  have hz:∀ i,i < ops.size→isDone listed i:=fun i hi=>zim listed i (by rw[I.size];exact hi) (zlH listed ops.size (by omega) i hi)
  refine⟨?_,?_⟩
  ·rw[List.eq_nil_iff_forall_not_mem]
   intro i hi
   obtain⟨hb,o,ho,_⟩:=mem_ready.1 hi
   exact(zdj listed i hb).1 (hz i (Array.getElem?_eq_some_iff.1 ho).1)
  ·obtain⟨g,t⟩:=zhn S I htm hcur hz
   exact hQ _ _ _ g t I.tsz
 |succ fuel ih=>
  intro listed tmps w μ tx done todo m born hl I
  refine⟨fun hr=>?_,fun i hi=>?_⟩
  ·obtain⟨g,t⟩:=zhn S I htm hcur (zk2 S I.size hr)
   exact hQ _ _ _ g t I.tsz
  ·refine zm9 E C CK S I hnt hi (fun u ν tx' tmps' done' todo' m' born' I'=>ih _ _ _ _ _ _ _ _ _ ?_ I')
   obtain⟨hb,o,ho,_⟩:=mem_ready.1 hi
   have:=(zoc listed i (zdj listed i hb).2 hb ops.size).2 (Array.getElem?_eq_some_iff.1 ho).1
   omega
end
end Go.PanE
