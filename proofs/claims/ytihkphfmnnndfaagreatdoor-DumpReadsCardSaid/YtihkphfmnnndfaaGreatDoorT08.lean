/-
 Part 8 of the proof of Rows.DumpReadsCardSaid: A region whose order is open: births, and what stays of the world meanwhile.
 A region whose order is open comes, in whatever order, to what the walk in the text's order comes to. Under the conditions that the small machine asks the program truly (EnvOK) and that calls are as it says (CallOK, CallKeep).
 The steps of a region whose order is open: an effect, a quiet operation, one that is not wanted.
-/
import Derived.Test.YtihkphfmnnndfaaGreatDoorT07
import Derived.Orders
namespace Go.PanE
theorem reserve_spec:∀ (n:Nat) (h:Heap),(reserve n h).nx=h.nx+n∧(reserve n h).wm=h.wm∧∀ b,(reserve n h).get b=if b < h.nx then h.get b else none:=by
 intro n
 induction n with
 |zero=>
  intro h
  refine⟨rfl,rfl,fun b=>?_⟩
  show h.get b=_
  by_cases hb:b < h.nx
  ·rw[if_pos hb]
  ·rw[if_neg hb,Heap.get_eq,if_neg hb]
 |succ n ih=>
  intro h
  obtain⟨h1,h2,h3⟩:=ih {t:=h.t.drop h.nx,nx:=h.nx+1,wm:=h.wm}
  refine⟨?_,h2,fun b=>?_⟩
  ·show(reserve n _).nx=_
   rw[h1];simp only;omega
  ·show(reserve n _).get b=_
   rw[h3,Heap.get_eq,Heap.get_eq]
   simp only[T.get_drop]
   by_cases hb:b < h.nx
   ·rw[if_pos (by omega),if_pos (by omega),if_neg (by omega),if_pos hb,if_pos hb]
   ·rw[if_neg hb]
    by_cases hb2:b < h.nx+1
    ·rw[if_pos hb2,if_pos hb2,if_pos (by omega)]
    ·rw[if_neg hb2]
section
variable {μ0 μ:Loc} {s m:Heap} {w0 w:World}
theorem go_reserve(R:Rep μ s w)(n:Nat):Go1 μ s w μ (reserve n s) w:=by
 obtain⟨h1,h2,h3⟩:=reserve_spec n s
 have g:∀ b o,(reserve n s).get b=some o→s.get b=some o:=by
  intro b o hb
  rw[h3] at hb
  split at hb
  ·exact hb
  ·simp at hb
 refine⟨μ.le_refl,⟨fun b o hb=>R.live b o (g b o hb),fun b b' o o' p p' hb hb'=>R.inj b b' o o' p p' (g _ _ hb) (g _ _ hb'),fun b hb=>R.fresh b (by omega),R.bound,R.glob⟩,Nat.le_refl _,?_,fun _ _ _=>rfl,rfl,rfl,rfl,by omega,fun _ _=>rfl⟩
 rintro k ⟨b,o,p,hb,hp,rfl⟩ _
 exact⟨b,o,p,g b o hb,hp,rfl⟩
/-- An object whose block lies there already is born. -/
theorem go_bind(G:Go1 μ0 s w0 μ m w){id:Nat}{p:Place}{obj:AObj}(hid:id < m.nx)(hno:m.get id=none)(hp:μ id=some p)(ho:ORel μ w p obj)(hge:w0.heap.size≤p.pb)(hown:¬ Own μ m p.pb):
  Go1 μ0 s w0 μ (m.put id obj) w∧∀ k,Own μ (m.put id obj) k→Own μ m k∨k=p.pb:=by
 have R:=G.rep
 have g:∀ b x,(m.put id obj).get b=some x→(b=id∧x=obj)∨(b≠id∧m.get b=some x):=by
  intro b x hb
  rw[Heap.get_put _ _ _ _ hid] at hb
  split at hb
  ·rename_i e;simp only[Option.some.injEq] at hb;exact .inl ⟨e,hb.symm⟩
  ·rename_i e;exact .inr ⟨e,hb⟩
 have own:∀ k,Own μ (m.put id obj) k→Own μ m k∨k=p.pb:=by
  rintro k ⟨b,x,q,hb,hq,rfl⟩
  rcases g b x hb with⟨rfl,_⟩|⟨_,h⟩
  ·rw[hp] at hq;simp only[Option.some.injEq] at hq;subst hq;exact .inr rfl
  ·exact .inl ⟨b,x,q,h,hq,rfl⟩
 refine⟨⟨G.ext,⟨?_,?_,R.fresh,R.bound,R.glob⟩,G.size,?_,G.frame,G.os,G.out,G.tape,G.nx,G.low⟩,own⟩
 ·intro b x hb
  rcases g b x hb with⟨rfl,rfl⟩|⟨_,h⟩
  ·exact⟨p,hp,ho⟩
  ·exact R.live b x h
 ·intro b b' x x' q q' hb hb' hq hq' hpb
  rcases g b x hb with⟨rfl,_⟩|⟨e,h⟩ <;>rcases g b' x' hb' with⟨rfl,_⟩|⟨e',h'⟩
  ·rfl
  ·exfalso
   rw[hp] at hq;simp only[Option.some.injEq] at hq;subst hq
   exact hown ⟨b',x',q',h',hq',hpb.symm⟩
  ·exfalso
   rw[hp] at hq';simp only[Option.some.injEq] at hq';subst hq'
   exact hown ⟨b,x,q,h,hq,hpb⟩
  ·exact R.inj b b' x x' q q' h h' hq hq' hpb
 ·intro k hk hlt
  rcases own k hk with h|h
  ·exact G.own k h hlt
  ·omega
/-- A block is made; its object is not born yet. -/
theorem go_pend(G:Go1 μ0 s w0 μ m w){id:Nat}{p:Place}{obj:AObj}{mk:Nat→Value}{v':Value}{u:World}(N:NewObj μ w u p obj mk v')(h1:s.nx≤id)(h2:id < m.nx)(hno:m.get id=none)(hp:μ id=none):
  Go1 μ0 s w0 (μ.upd id p) m u∧∀ k,Own (μ.upd id p) m k↔Own μ m k:=by
 have R:=G.rep
 have hle:μ.le (μ.upd id p):=Loc.le_upd hp
 have hne:∀ b x,m.get b=some x→b≠id:=fun b x hb e=>by subst e;rw[hno] at hb;simp at hb
 have own:∀ k,Own (μ.upd id p) m k↔Own μ m k:=by
  intro k
  constructor
  ·rintro⟨b,x,q,hb,hq,rfl⟩
   rw[Loc.upd_other _ _ _ _ (hne b x hb)] at hq
   exact⟨b,x,q,hb,hq,rfl⟩
  ·rintro⟨b,x,q,hb,hq,rfl⟩
   exact⟨b,x,q,hb,by rw[Loc.upd_other _ _ _ _ (hne b x hb)];exact hq,rfl⟩
 refine⟨⟨Loc.le_trans G.ext hle,⟨?_,?_,?_,?_,G.rep.glob.mono hle⟩,by have:=G.size;rw[N.size];omega,?_,?_,N.os.trans G.os,N.out.trans G.out,N.tape.trans G.tape,G.nx,?_⟩,own⟩
 ·intro b x hb
  obtain⟨q,hq,ho⟩:=R.live b x hb
  exact⟨q,hle _ _ hq,(ho.mono hle).world (N.old _ (R.bound _ _ hq))⟩
 ·intro b b' x x' q q' hb hb' hq hq'
  rw[Loc.upd_other _ _ _ _ (hne b x hb)] at hq
  rw[Loc.upd_other _ _ _ _ (hne b' x' hb')] at hq'
  exact R.inj b b' x x' q q' hb hb' hq hq'
 ·intro b hb
  rw[Loc.upd_other _ _ _ _ (by omega)]
  exact R.fresh b hb
 ·intro b q hq
  by_cases e:b=id
  ·rw[e,Loc.upd_same] at hq;simp only[Option.some.injEq] at hq;subst hq
   rw[N.pb,N.size];omega
  ·rw[Loc.upd_other _ _ _ _ e] at hq
   have:=R.bound b q hq
   rw[N.size];omega
 ·intro k hk hlt
  exact G.own k ((own k).1 hk) hlt
 ·intro k hk ho
  rw[N.old k (Nat.lt_of_lt_of_le hk G.size)]
  exact G.frame k hk ho
 ·intro b hb
  rw[Loc.upd_other _ _ _ _ (by omega)]
  exact G.low b hb
/-- What is known of an object that is not born yet. -/
structure PendOK(μ:Loc)(w w0:World)(r:Rec)(p:Place):Prop where
 at_:μ r.id=some p
 rel:∀ ν,μ.le ν→ORel ν w p r.obj
 lt:p.pb < w.heap.size
 ge:w0.heap.size≤p.pb
/-- All objects of a mask are born. -/
theorem bear_ok(mask born:Nat):∀ (l:List Rec) (k:Nat) (m:Heap),Go1 μ0 s w0 μ m w→
  (∀ (j:Nat) (r:Rec),l[j]? =some r→r.isA=true→mask.testBit (k+j)=true→born.testBit (k+j)=false→∃ p,PendOK μ w w0 r p∧m.get r.id=none∧r.id < m.nx∧¬ Own μ m p.pb)→
  (∀ (j j':Nat) (r r':Rec),l[j]? =some r→l[j']? =some r'→j≠j'→r.isA=true→r'.isA=true→mask.testBit (k+j)=true→born.testBit (k+j)=false→mask.testBit (k+j')=true→born.testBit (k+j')=false→
   r.id≠r'.id∧∀ p p',μ r.id=some p→μ r'.id=some p'→p.pb≠p'.pb)→
  Go1 μ0 s w0 μ (bear mask born l k m) w∧
   (∀ kk,Own μ (bear mask born l k m) kk→Own μ m kk∨∃ (j:Nat) (r:Rec) (p:Place),l[j]? =some r∧r.isA=true∧mask.testBit (k+j)=true∧born.testBit (k+j)=false∧μ r.id=some p∧kk=p.pb)∧
   (∀ b,m.get b=none→(∀ (j:Nat) (r:Rec),l[j]? =some r→r.isA=true→mask.testBit (k+j)=true→born.testBit (k+j)=false→r.id≠b)→(bear mask born l k m).get b=none):=by
 intro l
 induction l with
 |nil=>intro k m G _ _;exact⟨G,fun kk h=>.inl h,fun b h _=>h⟩
 |cons r l ih=>
  intro k m G hA hD
  simp only[bear]
  have hA':∀ (m':Heap),(∀ (j:Nat) (q:Rec),l[j]? =some q→q.isA=true→mask.testBit (k+1+j)=true→born.testBit (k+1+j)=false→∀ p,PendOK μ w w0 q p→m.get q.id=none→q.id < m.nx→¬ Own μ m p.pb→m'.get q.id=none∧q.id < m'.nx∧¬ Own μ m' p.pb)→
    ∀ (j:Nat) (q:Rec),l[j]? =some q→q.isA=true→mask.testBit (k+1+j)=true→born.testBit (k+1+j)=false→∃ p,PendOK μ w w0 q p∧m'.get q.id=none∧q.id < m'.nx∧¬ Own μ m' p.pb:=by
   intro m' hm' j q hj h1 h2 h3
   obtain⟨p,a1,a2,a3,a4⟩:=hA (j+1) q (by simpa using hj) h1 (by rw[show k+(j+1)=k+1+j by omega];exact h2) (by rw[show k+(j+1)=k+1+j by omega];exact h3)
   obtain⟨b1,b2,b3⟩:=hm' j q hj h1 h2 h3 p a1 a2 a3 a4
   exact⟨p,a1,b1,b2,b3⟩
  have hD':∀ (j j':Nat) (q q':Rec),l[j]? =some q→l[j']? =some q'→j≠j'→q.isA=true→q'.isA=true→mask.testBit (k+1+j)=true→born.testBit (k+1+j)=false→mask.testBit (k+1+j')=true→born.testBit (k+1+j')=false→
    q.id≠q'.id∧∀ p p',μ q.id=some p→μ q'.id=some p'→p.pb≠p'.pb:=by
   intro j j' q q' hj hj' hne h1 h2 h3 h4 h5 h6
   exact hD (j+1) (j'+1) q q' (by simpa using hj) (by simpa using hj') (by omega) h1 h2 (by rw[show k+(j+1)=k+1+j by omega];exact h3) (by rw[show k+(j+1)=k+1+j by omega];exact h4)
    (by rw[show k+(j'+1)=k+1+j' by omega];exact h5) (by rw[show k+(j'+1)=k+1+j' by omega];exact h6)
  split
  ·rename_i hc
   simp only[Bool.and_eq_true,bitB,Bool.not_eq_true'] at hc
   obtain⟨⟨hra,hm⟩,hb⟩:=hc
   obtain⟨p,pk,hno,hid,hown⟩:=hA 0 r rfl hra (by simpa using hm) (by simpa using hb)
   obtain⟨G2,own2⟩:=go_bind G hid hno pk.at_ (pk.rel μ μ.le_refl) pk.ge hown
   have hdis:∀ (j:Nat) (q:Rec),l[j]? =some q→q.isA=true→mask.testBit (k+1+j)=true→born.testBit (k+1+j)=false→r.id≠q.id∧∀ p p',μ r.id=some p→μ q.id=some p'→p.pb≠p'.pb:=by
    intro j q hj h1 h2 h3
    exact hD 0 (j+1) r q rfl (by simpa using hj) (by omega) hra h1 (by simpa using hm) (by simpa using hb) (by rw[show k+(j+1)=k+1+j by omega];exact h2) (by rw[show k+(j+1)=k+1+j by omega];exact h3)
   obtain⟨c1,c2,c3⟩:=ih (k+1) (m.put r.id r.obj) G2 (hA' _ (by
    intro j q hj h1 h2 h3 p' pk' a2 a3 a4
    obtain⟨d1,d2⟩:=hdis j q hj h1 h2 h3
    refine⟨by rw[Heap.get_put _ _ _ _ hid,if_neg (fun e=>d1 e.symm)];exact a2,a3,fun ho=>?_⟩
    rcases own2 _ ho with h|h
    ·exact a4 h
    ·exact d2 p p' pk.at_ pk'.at_ h.symm)) hD'
   refine⟨c1,fun kk hk=>?_,fun b hb1 hb2=>?_⟩
   ·rcases c2 kk hk with h|⟨j,q,p',e1,e2,e3,e4,e5,e6⟩
    ·rcases own2 kk h with h|h
     ·exact .inl h
     ·exact .inr ⟨0,r,p,rfl,hra,by simpa using hm,by simpa using hb,pk.at_,h⟩
    ·exact .inr ⟨j+1,q,p',by simpa using e1,e2,by rw[show k+(j+1)=k+1+j by omega];exact e3,by rw[show k+(j+1)=k+1+j by omega];exact e4,e5,e6⟩
   ·refine c3 b ?_ (fun j q hj h1 h2 h3=>hb2 (j+1) q (by simpa using hj) h1 (by rw[show k+(j+1)=k+1+j by omega];exact h2) (by rw[show k+(j+1)=k+1+j by omega];exact h3))
    have:=hb2 0 r rfl hra (by simpa using hm) (by simpa using hb)
    rw[Heap.get_put _ _ _ _ hid,if_neg (fun e=>this e.symm)]
    exact hb1
  ·obtain⟨c1,c2,c3⟩:=ih (k+1) m G (hA' m (fun j q _ _ _ _ p _ a2 a3 a4=>⟨a2,a3,a4⟩)) hD'
   refine⟨c1,fun kk hk=>?_,fun b hb1 hb2=>?_⟩
   ·rcases c2 kk hk with h|⟨j,q,p',e1,e2,e3,e4,e5,e6⟩
    ·exact .inl h
    ·exact .inr ⟨j+1,q,p',by simpa using e1,e2,by rw[show k+(j+1)=k+1+j by omega];exact e3,by rw[show k+(j+1)=k+1+j by omega];exact e4,e5,e6⟩
   ·exact c3 b hb1 (fun j q hj h1 h2 h3=>hb2 (j+1) q (by simpa using hj) h1 (by rw[show k+(j+1)=k+1+j by omega];exact h2) (by rw[show k+(j+1)=k+1+j by omega];exact h3))
end
end Go.PanE
namespace Go.PanE
section
variable {P:Program} {env:Env} {call:CallT} {nt:Nat} {ops:Array Oper} {recs:List Rec} {traj:List Eff} {tm0:T Value} {s h0:Heap} {base:Nat} {w0:World} {μ0:Loc} {sz:Nat}
/-- Is an operation done? -/
def isDone(listed:Array Bool)(i:Nat):Prop:=listed[i]? =some true
/-- What holds while some operations are done. -/
structure SInv(ops:Array Oper)(recs:List Rec)(traj:List Eff)(tm0:T Value)(s h0:Heap)(w0:World)(μ0:Loc)(sz:Nat)(listed:Array Bool)(tmps:Array Value)(w:World)(μ:Loc)(tx:T Value)(done todo:List Eff)(m:Heap)(born:Nat):Prop where
 size:listed.size=ops.size
 closed:∀ (i:Nat) (r:Rec),recs[i]? =some r→isDone listed i→∀ e,e∈r.o.after.toList→Region.binds .any e=true→isDone listed e.on
 split:traj=done++todo
 din:∀ x:Eff,x∈done→isDone listed x.i
 tout:∀ x:Eff,x∈todo→¬ isDone listed x.i
 cur:curOf h0 0 done=(m,born)
 go:Go1 μ0 s w0 μ m w
 tr:TRel μ tx tmps
 tx1:∀ (t:Nat) (i:Nat) (r:Rec),recs[i]? =some r→isDone listed i→r.o.dst=some t→rdT tx t=r.v
 tx2:∀ (t:Nat),(∀ (i:Nat) (r:Rec),recs[i]? =some r→isDone listed i→r.o.dst≠some t)→rdT tx t=rdT tm0 t
 tsz:tmps.size=sz
 pend:∀ (i:Nat) (r:Rec),recs[i]? =some r→r.isA=true→isDone listed i→born.testBit i=false→∃ p,PendOK μ w w0 r p∧¬ Own μ m p.pb
 pinj:∀ (i j:Nat) (r q:Rec) (p p':Place),recs[i]? =some r→recs[j]? =some q→r.isA=true→q.isA=true→isDone listed i→isDone listed j→born.testBit i=false→born.testBit j=false→i≠j→μ r.id=some p→μ q.id=some p'→p.pb≠p'.pb
 unb:∀ (i:Nat) (r:Rec),recs[i]? =some r→r.isA=true→¬ isDone listed i→μ r.id=none
 non:∀ (i:Nat) (r:Rec),recs[i]? =some r→r.isA=true→born.testBit i=false→m.get r.id=none
 nxm:∀ (i:Nat) (r:Rec),recs[i]? =some r→r.isA=true→s.nx≤r.id∧r.id < m.nx
 bl:∀ (i:Nat),born.testBit i=true→isDone listed i
/-- What the walk and its looks have shown. -/
structure Shown(env:Env)(call:CallT)(nt:Nat)(ops:Array Oper)(recs:List Rec)(traj:List Eff)(tm0:T Value)(h0:Heap):Prop where
 len:recs.length=ops.size
 op:∀ (i:Nat) (r:Rec),recs[i]? =some r→ops[i]? =some r.o
 anc:∀ (i:Nat) (r:Rec),recs[i]? =some r→r.anc=ancOf (recs.take i) r.o.after.toList
 tmr:∀ (i:Nat) (r:Rec),recs[i]? =some r→∀ (t:Nat),(∀ (j:Nat) (q:Rec),j < i→recs[j]? =some q→q.o.dst=some t→rdT r.tm t=q.v)∧((∀ (j:Nat) (q:Rec),j < i→recs[j]? =some q→q.o.dst≠some t)→rdT r.tm t=rdT tm0 t)
 want:∀ (i:Nat) (r:Rec),recs[i]? =some r→r.want=wantedA ops.toList r.tm r.o
 off:∀ (i:Nat) (r:Rec),recs[i]? =some r→r.want=false→r.v=undef
 q:∀ (i:Nat) (r:Rec),recs[i]? =some r→r.want=true→r.kd=0→∃ h:Heap,opQ env h r.tm r.o.op=some r.v
 a:∀ (i:Nat) (r:Rec),recs[i]? =some r→r.want=true→r.kd=1→∃ mk,opA env r.tm r.o.op=some (mk,r.obj)∧r.v=mk r.id
 ainj:∀ (i j:Nat) (r q:Rec),recs[i]? =some r→recs[j]? =some q→r.isA=true→q.isA=true→r.id=q.id→i=j
 dst:∀ (i:Nat) (r:Rec) (t:Nat),recs[i]? =some r→r.o.dst=some t→t < nt
 e:∀ (i:Nat) (r:Rec),recs[i]? =some r→r.want=true→2≤r.kd→∃ x:Eff,x∈traj∧x.i=i
 trj:TrajOK env call recs h0 0 traj
 edge:∀ (i:Nat) (r:Rec),recs[i]? =some r→∀ e,e∈r.o.after.toList→Region.binds .any e=true→e.on < i
 look:∀ (i k:Nat) (r q:Rec) (t:Nat),recs[i]? =some r→recs[k]? =some q→i≠k→q.o.dst=some t→r.o.dst≠some t∧(t∈looks ops.toList r.o→(k < i∧r.anc.testBit k=true)∨(i < k∧q.anc.testBit i=true))
 chain:chainOK recs traj=true
 quiet:∀ (i:Nat) (r:Rec),recs[i]? =some r→r.want=true→r.kd=0→usesHeap r.o.op=true→quietP env recs r i [] traj h0 0
/-- Who is done is closed. -/
theorem anc_done(S:Shown env call nt ops recs traj tm0 h0){listed:Array Bool}(hc:∀ (i:Nat) (r:Rec),recs[i]? =some r→isDone listed i→∀ e,e∈r.o.after.toList→Region.binds .any e=true→isDone listed e.on):
  ∀ (i:Nat) (r:Rec),recs[i]? =some r→(∀ e,e∈r.o.after.toList→Region.binds .any e=true→isDone listed e.on)→∀ k,r.anc.testBit k=true→isDone listed k∧k < i:=by
 intro i
 induction i using Nat.strongRecOn with
 |_ i ih=>
  intro r hr hd k hk
  rw[S.anc i r hr] at hk
  obtain⟨e,he,hb,h⟩:=anc_cases hk
  have hlt:=S.edge i r hr e he hb
  have hdn:=hd e he hb
  rcases h with h|⟨q,hq,hqk⟩
  ·subst h;exact⟨hdn,hlt⟩
  ·have hq':recs[e.on]? =some q:=by
    rw[List.getElem?_take,if_pos hlt] at hq
    exact hq
   obtain⟨h1,h2⟩:=ih e.on hlt q hq' (hc e.on q hq' hdn) k hqk
   exact⟨h1,by omega⟩
section
variable {listed:Array Bool} {tmps:Array Value} {w:World} {μ:Loc} {tx:T Value} {done todo:List Eff} {m:Heap} {born:Nat}
/-- The slots that an operation looks at hold what they held in the walk. -/
theorem look_eq(S:Shown env call nt ops recs traj tm0 h0)(I:SInv ops recs traj tm0 s h0 w0 μ0 sz listed tmps w μ tx done todo m born){i:Nat}{r:Rec}(hr:recs[i]? =some r)(hn:¬ isDone listed i)
  (hd:∀ e,e∈r.o.after.toList→Region.binds .any e=true→isDone listed e.on):∀ t,t∈looks ops.toList r.o→rdT r.tm t=rdT tx t:=by
 intro t ht
 by_cases hex:∃ (k:Nat) (q:Rec),recs[k]? =some q∧k≠i∧q.o.dst=some t
 ·obtain⟨k,q,hq,hki,hqt⟩:=hex
  obtain⟨_,hl⟩:=S.look i k r q t hr hq (fun e=>hki e.symm) hqt
  rcases hl ht with⟨h1,h2⟩|⟨h1,h2⟩
  ·have hdk:=(anc_done S I.closed i r hr hd k h2).1
   rw[I.tx1 t k q hq hdk hqt]
   exact(S.tmr i r hr t).1 k q h1 hq hqt
  ·have hnk:¬ isDone listed k:=by
    intro hdk
    exact hn (anc_done S I.closed k q hq (I.closed k q hq hdk) i h2).1
   rw[I.tx2 t,(S.tmr i r hr t).2]
   ·intro j p hj hp hpt
    by_cases hjk:j=k
    ·omega
    ·exact(S.look j k p q t hp hq hjk hqt).1 hpt
   ·intro j p hp hdj hpt
    by_cases hjk:j=k
    ·subst hjk;exact hnk hdj
    ·exact(S.look j k p q t hp hq hjk hqt).1 hpt
 ·rw[I.tx2 t,(S.tmr i r hr t).2]
  ·intro j p hj hp hpt
   exact hex ⟨j,p,hp,by omega,hpt⟩
  ·intro j p hp hdj hpt
   refine hex ⟨j,p,hp,?_,hpt⟩
   intro e;subst e;exact hn hdj
theorem rd_eq{o:Oper}{tm tm':T Value}(h:∀ t,t∈looks ops.toList o→rdT tm t=rdT tm' t):∀ x,x∈o.op.operands.toList→rd tm x=rd tm' x:=by
 intro x hx
 cases x with
 |tmp t=>
  have:t∈looks ops.toList o:=by
   unfold looks
   rw[List.mem_append]
   left
   rw[List.mem_filterMap]
   exact⟨.tmp t,hx,rfl⟩
  simp only[rd,h t this]
 |_=>rfl
theorem want_eq{o:Oper}{tm tm':T Value}(h:∀ t,t∈looks ops.toList o→rdT tm t=rdT tm' t):wantedA ops.toList tm o=wantedA ops.toList tm' o:=by
 unfold wantedA
 cases hg:o.guard with
 |none=>rfl
 |some g=>
  obtain⟨j,want⟩:=g
  simp only
  have:guardV ops.toList tm j=guardV ops.toList tm' j:=by
   unfold guardV
   cases ho:ops.toList[j]? with
   |none=>rfl
   |some q=>
    simp only
    cases hd:q.dst with
    |none=>rfl
    |some d=>
     have:d∈looks ops.toList o:=by
      unfold looks
      rw[List.mem_append]
      right
      simp[hg,ho,hd]
     simp only[h d this]
  rw[this]
theorem done_set{i j:Nat}(hi:i < listed.size):isDone (listed.setIfInBounds i true) j↔j=i∨isDone listed j:=by
 unfold isDone
 rw[Array.getElem?_setIfInBounds]
 by_cases e:i=j
 ·subst e;simp[hi]
 ·rw[if_neg e]
  constructor
  ·exact .inr
  ·rintro(h|h)
   ·exact absurd h.symm e
   ·exact h
/-- The parts of what holds that hang on the slots alone. -/
theorem step_slots(S:Shown env call nt ops recs traj tm0 h0)(I:SInv ops recs traj tm0 s h0 w0 μ0 sz listed tmps w μ tx done todo m born)(hnt:nt≤sz){i:Nat}{r:Rec}(hr:recs[i]? =some r)(hn:¬ isDone listed i)
  {ν:Loc} (hle:μ.le ν) {v':Value} (rv:VRel ν r.v v'):
  ∃ tx',TRel ν tx' (Act.put ⟨tmps,[]⟩ r.o.dst v').tmps∧(Act.put ⟨tmps,[]⟩ r.o.dst v')=⟨(Act.put ⟨tmps,[]⟩ r.o.dst v').tmps,[]⟩∧(Act.put ⟨tmps,[]⟩ r.o.dst v').tmps.size=sz∧
   (∀ (t:Nat) (j:Nat) (q:Rec),recs[j]? =some q→(j=i∨isDone listed j)→q.o.dst=some t→rdT tx' t=q.v)∧
   (∀ (t:Nat),(∀ (j:Nat) (q:Rec),recs[j]? =some q→(j=i∨isDone listed j)→q.o.dst≠some t)→rdT tx' t=rdT tm0 t):=by
 cases hd:r.o.dst with
 |none=>
  refine⟨tx,I.tr.mono hle,rfl,I.tsz,?_,?_⟩
  ·rintro t j q hq (rfl|hj) hqt
   ·rw[hr] at hq;simp only[Option.some.injEq] at hq;subst hq;rw[hd] at hqt;simp at hqt
   ·exact I.tx1 t j q hq hj hqt
  ·intro t h
   exact I.tx2 t (fun j q hq hj=>h j q hq (.inr hj))
 |some d=>
  have hdn:=S.dst i r d hr hd
  refine⟨tx.put d r.v,(I.tr.mono hle).put rv (by rw[I.tsz];omega),rfl,by simp[Act.put,I.tsz],?_,?_⟩
  ·rintro t j q hq (rfl|hj) hqt
   ·rw[hr] at hq;simp only[Option.some.injEq] at hq;subst hq
    rw[hd] at hqt;simp only[Option.some.injEq] at hqt;subst hqt
    simp[rdT,T.get_put]
   ·have hne:t≠d:=by
     rintro rfl
     have hji:j≠i:=by rintro rfl;exact hn hj
     exact(S.look j i q r t hq hr hji hd).1 hqt
    simp only[rdT,T.get_put,if_neg hne]
    exact I.tx1 t j q hq hj hqt
  ·intro t h
   have hne:t≠d:=by
    rintro rfl
    exact h i r hr (.inl rfl) hd
   simp only[rdT,T.get_put,if_neg hne]
   exact I.tx2 t (fun j q hq hj=>h j q hq (.inr hj))
theorem closed_set(I:SInv ops recs traj tm0 s h0 w0 μ0 sz listed tmps w μ tx done todo m born){i:Nat}{r:Rec}(hr:recs[i]? =some r)(hi:i < listed.size)
  (hd:∀ e,e∈r.o.after.toList→Region.binds .any e=true→isDone listed e.on):
  ∀ (j:Nat) (q:Rec),recs[j]? =some q→isDone (listed.setIfInBounds i true) j→∀ e,e∈q.o.after.toList→Region.binds .any e=true→isDone (listed.setIfInBounds i true) e.on:=by
 intro j q hq hj e he hb
 rw[done_set hi] at hj ⊢
 right
 rcases hj with rfl|hj
 ·rw[hr] at hq;simp only[Option.some.injEq] at hq;subst hq
  exact hd e he hb
 ·exact I.closed j q hq hj e he hb
/-- A step that changes neither memory nor births: an operation that is not wanted, or a quiet one. -/
theorem step_still(S:Shown env call nt ops recs traj tm0 h0)(I:SInv ops recs traj tm0 s h0 w0 μ0 sz listed tmps w μ tx done todo m born)(hnt:nt≤sz){i:Nat}{r:Rec}(hr:recs[i]? =some r)(hn:¬ isDone listed i)(hi:i < listed.size)
  (hd:∀ e,e∈r.o.after.toList→Region.binds .any e=true→isDone listed e.on) (hna:r.isA=false) (hne:∀ x,x∈todo→x.i≠i) {v':Value} (rv:VRel μ r.v v'):
  ∃ tx' tmps',(Act.put ⟨tmps,[]⟩ r.o.dst v')=⟨tmps',[]⟩∧SInv ops recs traj tm0 s h0 w0 μ0 sz (listed.setIfInBounds i true) tmps' w μ tx' done todo m born:=by
 obtain⟨tx',t1,t2,t3,t4,t5⟩:=step_slots S I hnt hr hn μ.le_refl rv
 refine⟨tx',_,t2,?_⟩
 refine⟨by simp[I.size],closed_set I hr hi hd,I.split,fun x hx=>(done_set hi).2 (.inr (I.din x hx)),fun x hx h=>?_,I.cur,I.go,t1,fun t j q hq hj=>t4 t j q hq ((done_set hi).1 hj),fun t h=>t5 t (fun j q hq hj=>h j q hq ((done_set hi).2 hj)),t3,?_,?_,?_,I.non,I.nxm,fun j hj=>(done_set hi).2 (.inr (I.bl j hj))⟩
 ·rcases(done_set hi).1 h with h|h
  ·exact hne x hx h
  ·exact I.tout x hx h
 ·intro j q hq ha hj hb
  rcases(done_set hi).1 hj with rfl|hj
  ·rw[hr] at hq;simp only[Option.some.injEq] at hq;subst hq;rw[hna] at ha;simp at ha
  ·exact I.pend j q hq ha hj hb
 ·intro j k q p pq pp hq hp ha ha' hj hk hb hb'
  rcases(done_set hi).1 hj with rfl|hj
  ·rw[hr] at hq;simp only[Option.some.injEq] at hq;subst hq;rw[hna] at ha;simp at ha
  ·rcases(done_set hi).1 hk with rfl|hk
   ·rw[hr] at hp;simp only[Option.some.injEq] at hp;subst hp;rw[hna] at ha';simp at ha'
   ·exact I.pinj j k q p pq pp hq hp ha ha' hj hk hb hb'
 ·intro j q hq ha hj
  exact I.unb j q hq ha (fun h=>hj ((done_set hi).2 (.inr h)))
/-- A step that makes an object. -/
theorem step_alloc(S:Shown env call nt ops recs traj tm0 h0)(I:SInv ops recs traj tm0 s h0 w0 μ0 sz listed tmps w μ tx done todo m born)(hnt:nt≤sz){i:Nat}{r:Rec}(hr:recs[i]? =some r)(hn:¬ isDone listed i)(hi:i < listed.size)
  (hd:∀ e,e∈r.o.after.toList→Region.binds .any e=true→isDone listed e.on) (hra:r.isA=true) (hne:∀ x,x∈todo→x.i≠i) {v':Value} {u:World} {p:Place} {mk:Nat→Value} (N:NewObj μ w u p r.obj mk v') (hv:r.v=mk r.id):
  ∃ ν tx' tmps',(Act.put ⟨tmps,[]⟩ r.o.dst v')=⟨tmps',[]⟩∧SInv ops recs traj tm0 s h0 w0 μ0 sz (listed.setIfInBounds i true) tmps' u ν tx' done todo m born:=by
 have hunb:=I.unb i r hr hra hn
 have hbi:born.testBit i=false:=by
  cases hb:born.testBit i
  ·rfl
  ·exact absurd (I.bl i hb) hn
 obtain⟨g1,own⟩:=go_pend I.go N (I.nxm i r hr hra).1 (I.nxm i r hr hra).2 (I.non i r hr hra hbi) hunb
 have hle:μ.le (μ.upd r.id p):=Loc.le_upd hunb
 have rel:=N.rel (μ.upd r.id p) r.id hle (Loc.upd_same _ _ _)
 obtain⟨tx',t1,t2,t3,t4,t5⟩:=step_slots S I hnt hr hn hle (by rw[hv];exact rel.2)
 have hid:∀ (j:Nat) (q:Rec),recs[j]? =some q→q.isA=true→j≠i→q.id≠r.id:=fun j q hq ha hji e=>hji (S.ainj j i q r hq hr ha hra e)
 refine⟨μ.upd r.id p,tx',_,t2,?_⟩
 refine⟨by simp[I.size],closed_set I hr hi hd,I.split,fun x hx=>(done_set hi).2 (.inr (I.din x hx)),fun x hx h=>?_,I.cur,g1,t1,fun t j q hq hj=>t4 t j q hq ((done_set hi).1 hj),fun t h=>t5 t (fun j q hq hj=>h j q hq ((done_set hi).2 hj)),t3,?_,?_,?_,I.non,I.nxm,fun j hj=>(done_set hi).2 (.inr (I.bl j hj))⟩
 ·rcases(done_set hi).1 h with h|h
  ·exact hne x hx h
  ·exact I.tout x hx h
 ·intro j q hq ha hj hb
  by_cases hji:j=i
  ·subst hji
   rw[hr] at hq;simp only[Option.some.injEq] at hq;subst hq
   refine⟨p,⟨Loc.upd_same _ _ _,fun ξ hξ=>(N.rel ξ r.id (Loc.le_trans hle hξ) (hξ _ _ (Loc.upd_same _ _ _))).1,by rw[N.pb,N.size];omega,by rw[N.pb];exact I.go.size⟩,fun ho=>?_⟩
   obtain⟨b,x,q,hb1,hq1,hpb⟩:=(own p.pb).1 ho
   have:=I.go.rep.bound b q hq1
   rw[hpb,N.pb] at this
   omega
  ·rcases(done_set hi).1 hj with h|hj
   ·exact absurd h hji
   obtain⟨p',pk,hown⟩:=I.pend j q hq ha hj hb
   exact⟨p',⟨by rw[Loc.upd_other _ _ _ _ (hid j q hq ha hji)];exact pk.at_,fun ξ hξ=>(pk.rel ξ (Loc.le_trans hle hξ)).world (N.old _ pk.lt),by have:=pk.lt;rw[N.size];omega,pk.ge⟩,fun ho=>hown ((own _).1 ho)⟩
 ·intro j k q q' pq pq' hq hq' ha ha' hj hk hb hb' hjk h1 h2
  have hpb:∀ (l:Nat) (x:Rec) (px:Place),recs[l]? =some x→x.isA=true→isDone (listed.setIfInBounds i true) l→born.testBit l=false→l≠i→(μ.upd r.id p) x.id=some px→px.pb < w.heap.size∧μ x.id=some px:=by
   intro l x px hx hxa hxd _ hli hpx
   rw[Loc.upd_other _ _ _ _ (hid l x hx hxa hli)] at hpx
   exact⟨I.go.rep.bound _ _ hpx,hpx⟩
  by_cases hji:j=i <;>by_cases hki:k=i
  ·omega
  ·subst hji
   rw[hr] at hq;simp only[Option.some.injEq] at hq;subst hq
   rw[Loc.upd_same] at h1;simp only[Option.some.injEq] at h1;subst h1
   have:=(hpb k q' pq' hq' ha' hk hb' hki h2).1
   rw[N.pb];omega
  ·subst hki
   rw[hr] at hq';simp only[Option.some.injEq] at hq';subst hq'
   rw[Loc.upd_same] at h2;simp only[Option.some.injEq] at h2;subst h2
   have:=(hpb j q pq hq ha hj hb hji h1).1
   rw[N.pb];omega
  ·have hj':isDone listed j:=by
    rcases(done_set hi).1 hj with h|h
    ·exact absurd h hji
    ·exact h
   have hk':isDone listed k:=by
    rcases(done_set hi).1 hk with h|h
    ·exact absurd h hki
    ·exact h
   exact I.pinj j k q q' pq pq' hq hq' ha ha' hj' hk' hb hb' hjk (hpb j q pq hq ha hj hb hji h1).2 (hpb k q' pq' hq' ha' hk hb' hki h2).2
 ·intro j q hq ha hj
  have hji:j≠i:=by rintro rfl;exact hj ((done_set hi).2 (.inl rfl))
  rw[Loc.upd_other _ _ _ _ (hid j q hq ha hji)]
  exact I.unb j q hq ha (fun h=>hj ((done_set hi).2 (.inr h)))
/-- The births that an operation asks for. -/
theorem births(S:Shown env call nt ops recs traj tm0 h0)(I:SInv ops recs traj tm0 s h0 w0 μ0 sz listed tmps w μ tx done todo m born){mask:Nat}(hm:∀ k,mask.testBit k=true→isDone listed k)(n:Nat):
  Go1 μ0 s w0 μ (bear mask born (recs.take n) 0 m) w∧
   (∀ kk,Own μ (bear mask born (recs.take n) 0 m) kk→Own μ m kk∨∃ (j:Nat) (r:Rec) (p:Place),recs[j]? =some r∧r.isA=true∧mask.testBit j=true∧born.testBit j=false∧μ r.id=some p∧kk=p.pb)∧
   (∀ b,m.get b=none→(∀ (j:Nat) (r:Rec),recs[j]? =some r→r.isA=true→mask.testBit j=true→born.testBit j=false→r.id≠b)→(bear mask born (recs.take n) 0 m).get b=none):=by
 have htake:∀ (j:Nat) (r:Rec),(recs.take n)[j]? =some r→recs[j]? =some r:=by
  intro j r h
  rw[List.getElem?_take] at h
  by_cases hjn:j < n
  ·rw[if_pos hjn] at h;exact h
  ·rw[if_neg hjn] at h;exact absurd h (by simp)
 obtain⟨c1,c2,c3⟩:=bear_ok (μ0:=μ0) (s:=s) (w0:=w0) (μ:=μ) (w:=w) mask born (recs.take n) 0 m I.go (fun j r hj ha h1 h2=>by
   rw[Nat.zero_add] at h1 h2
   obtain⟨p,pk,hown⟩:=I.pend j r (htake j r hj) ha (hm j h1) h2
   exact⟨p,pk,I.non j r (htake j r hj) ha h2,(I.nxm j r (htake j r hj) ha).2,hown⟩) (fun j j' r r' hj hj' hne ha ha' h1 h2 h3 h4=>by
   rw[Nat.zero_add] at h1 h2 h3 h4
   refine⟨fun e=>hne (S.ainj j j' r r' (htake j r hj) (htake j' r' hj') ha ha' e),fun p p' hp hp'=>?_⟩
   exact I.pinj j j' r r' p p' (htake j r hj) (htake j' r' hj') ha ha' (hm j h1) (hm j' h3) h2 h4 hne hp hp')
 refine⟨c1,fun kk hk=>?_,fun b h1 h2=>c3 b h1 (fun j r hj ha h3 h4=>h2 j r (htake j r hj) ha (by simpa using h3) (by simpa using h4))⟩
 rcases c2 kk hk with h|⟨j,r,p,a1,a2,a3,a4,a5,a6⟩
 ·exact .inl h
 ·exact .inr ⟨j,r,p,htake j r a1,a2,by simpa using a3,by simpa using a4,a5,a6⟩
end
end
end Go.PanE
namespace Go.PanE
section
variable {P:Program} {env:Env} {call:CallT} {nt:Nat} {ops:Array Oper} {recs:List Rec} {traj:List Eff} {tm0:T Value} {s h0:Heap} {base:Nat} {w0:World} {μ0:Loc} {sz:Nat}
variable {listed:Array Bool} {tmps:Array Value} {w:World} {μ:Loc} {tx:T Value} {done todo:List Eff} {m:Heap} {born:Nat}
theorem anc_lt(S:Shown env call nt ops recs traj tm0 h0):∀ (i:Nat) (r:Rec),recs[i]? =some r→∀ k,r.anc.testBit k=true→k < i:=by
 intro i
 induction i using Nat.strongRecOn with
 |_ i ih=>
  intro r hr k hk
  rw[S.anc i r hr] at hk
  obtain⟨e,he,hb,h⟩:=anc_cases hk
  have hlt:=S.edge i r hr e he hb
  rcases h with h|⟨q,hq,hqk⟩
  ·omega
  ·rw[List.getElem?_take,if_pos hlt] at hq
   have:=ih e.on hlt q hq k hqk
   omega
theorem chain_at(recs:List Rec):∀ (l1:List Eff) (a b:Eff) (l2:List Eff),chainOK recs (l1++a::b::l2)=true→∃ r,recs[b.i]? =some r∧r.anc.testBit a.i=true:=by
 intro l1
 induction l1 with
 |nil=>
  intro a b l2 h
  simp only[List.nil_append,chainOK,Bool.and_eq_true] at h
  cases hb:recs[b.i]? with
  |none=>rw[hb] at h;simp at h
  |some r=>rw[hb] at h;exact⟨r,rfl,h.1⟩
 |cons y l1 ih=>
  intro a b l2 h
  refine ih a b l2 ?_
  cases l1 with
  |nil=>
   simp only[List.cons_append,List.nil_append,chainOK,Bool.and_eq_true] at h ⊢
   exact h.2
  |cons z l1=>
   simp only[List.cons_append,chainOK,Bool.and_eq_true] at h ⊢
   exact h.2
theorem chain_lt(S:Shown env call nt ops recs traj tm0 h0):∀ (l2 l1:List Eff) (a:Eff),traj=l1++a::l2→∀ y,y∈l2→a.i < y.i:=by
 intro l2
 induction l2 with
 |nil=>intro l1 a _ y hy;simp at hy
 |cons b l2 ih=>
  intro l1 a e y hy
  have hc:=S.chain
  rw[e] at hc
  obtain⟨r,hr,hb⟩:=chain_at recs l1 a b l2 hc
  have h1:=anc_lt S b.i r hr a.i hb
  rcases List.mem_cons.1 hy with rfl|hy
  ·exact h1
  ·have:=ih (l1++[a]) b (by rw[e];simp) y hy
   omega
theorem traj_at(env:Env)(call:CallT)(recs:List Rec):∀ (l1:List Eff) (h:Heap) (b:Nat) (x:Eff) (l2:List Eff),TrajOK env call recs h b (l1++x::l2)→EffOK env call recs (curOf h b l1).1 (curOf h b l1).2 x:=by
 intro l1
 induction l1 with
 |nil=>intro h b x l2 t;exact t.1
 |cons y l1 ih=>intro h b x l2 t;exact ih y.post y.born x l2 t.2
/-- The next effect is the head of what is to come. -/
theorem eff_head(S:Shown env call nt ops recs traj tm0 h0)(I:SInv ops recs traj tm0 s h0 w0 μ0 sz listed tmps w μ tx done todo m born){i:Nat}{r:Rec}(hr:recs[i]? =some r)(hn:¬ isDone listed i)
  (hd:∀ e,e∈r.o.after.toList→Region.binds .any e=true→isDone listed e.on) (hw:r.want=true) (hk:2≤r.kd):
  ∃ (x:Eff) (todo':List Eff),todo=x::todo'∧x.i=i∧(∀ y:Eff,y∈todo'→i < y.i)∧x.pre=bear r.anc born (recs.take i) 0 m∧opE env call x.pre r.tm r.o.op=some (r.v,x.post)∧x.born=bornOf r.anc born:=by
 obtain⟨x,hx,hxi⟩:=S.e i r hr hw hk
 rw[I.split] at hx
 have hxt:x∈todo:=by
  rcases List.mem_append.1 hx with h|h
  ·exact absurd (hxi▸I.din x h) hn
  ·exact h
 obtain⟨l1,l2,e⟩:=List.append_of_mem hxt
 have hl1:l1=[]:=by
  rcases List.eq_nil_or_concat l1 with h|⟨l1',a,h⟩
  ·exact h
  ·exfalso
   rw[List.concat_eq_append] at h
   have hc:=S.chain
   rw[I.split,e,h] at hc
   obtain⟨q,hq,hb⟩:=chain_at recs (done++l1') a x l2 (by simpa using hc)
   rw[hxi,hr] at hq
   simp only[Option.some.injEq] at hq;subst hq
   have hda:=(anc_done S I.closed i r hr hd a.i hb).1
   exact I.tout a (by rw[e,h];simp) hda
 subst hl1
 rw[List.nil_append] at e
 have hsp:=I.split
 rw[e] at hsp
 have ht:=S.trj
 rw[hsp] at ht
 obtain⟨q,hq,_,_,h1,h2,h3⟩:=traj_at env call recs done h0 0 x l2 ht
 rw[I.cur] at h1 h3
 rw[hxi,hr] at hq
 simp only[Option.some.injEq] at hq;subst hq
 rw[hxi] at h1
 refine⟨x,l2,e,hxi,fun y hy=>?_,h1,h2,h3⟩
 rw[← hxi]
 exact chain_lt S l2 done x hsp y hy
theorem traj_rec(S:Shown env call nt ops recs traj tm0 h0)(x:Eff)(hx:x∈traj):∃ r,recs[x.i]? =some r∧2≤r.kd:=by
 obtain⟨l1,l2,e⟩:=List.append_of_mem hx
 have ht:=S.trj
 rw[e] at ht
 obtain⟨q,hq,_,hk,_⟩:=traj_at env call recs l1 h0 0 x l2 ht
 exact⟨q,hq,hk⟩
theorem isA_kd{r:Rec}(h:r.isA=true):r.want=true∧r.kd=1:=by
 unfold Rec.isA at h
 rw[Bool.and_eq_true] at h
 exact⟨h.1,Nat.eq_of_beq_eq_true h.2⟩
/-- A step that is an effect. -/
theorem step_eff(E:EnvOK P env)(C:CallOK P call)(CK:CallKeep call)(S:Shown env call nt ops recs traj tm0 h0)(I:SInv ops recs traj tm0 s h0 w0 μ0 sz listed tmps w μ tx done todo m born)(hnt:nt≤sz){i:Nat}{r:Rec}(hr:recs[i]? =some r)(hn:¬ isDone listed i)(hi:i < listed.size)
  (hd:∀ e,e∈r.o.after.toList→Region.binds .any e=true→isDone listed e.on) (hw:r.want=true) (hk:2≤r.kd) {next:Act→World→Prop} {Q:Exit→Act→World→Prop}
  (hnx:∀ (u:World) (ν:Loc) (tx':T Value) (tmps':Array Value) (done' todo':List Eff) (m':Heap) (born':Nat),SInv ops recs traj tm0 s h0 w0 μ0 sz (listed.setIfInBounds i true) tmps' u ν tx' done' todo' m' born'→next ⟨tmps',[]⟩ u):r.o.wp P ⟨tmps,[]⟩ w next Q:=by
 obtain⟨x,todo',htd,hxi,hlt,hpre,hop,hborn⟩:=eff_head S I hr hn hd hw hk
 have hanc:=anc_done S I.closed i r hr hd
 obtain⟨gb,bown,bno⟩:=births S I (mask:=r.anc) (fun k h=>(hanc k h).1) i
 rw[← hpre] at gb bown bno
 have hnxm:x.pre.nx=m.nx:=by rw[hpre,bear_nx]
 have hop':opE env call x.pre tx r.o.op=some (r.v,x.post):=by
  rw[← hop]
  exact(opE_tm (rd_eq (look_eq S I hr hn hd))).symm
 have kp:=eff_keep CK hop'
 have hnotA:∀ (j:Nat) (q:Rec),recs[j]? =some q→q.isA=true→j≠i:=by
  rintro j q hq ha rfl
  rw[hr] at hq;simp only[Option.some.injEq] at hq;subst hq
  have:=(isA_kd ha).2
  omega
 refine eff_ok E gb.rep I.tr C hop' (fun u ν v' g rv=>?_)
 obtain⟨tx',t1,t2,t3,t4,t5⟩:=step_slots S I hnt hr hn g.ext rv
 rw[t2]
 have hnotown:∀ (j:Nat) (q:Rec) (p:Place),recs[j]? =some q→q.isA=true→isDone listed j→born.testBit j=false→r.anc.testBit j=false→μ q.id=some p→¬ Own μ m p.pb→¬ Own μ x.pre p.pb:=by
  intro j q p hq ha hj hb hb2 hp hown ho
  rcases bown _ ho with h|⟨j',q',p',a1,a2,a3,a4,a5,a6⟩
  ·exact hown h
  ·have hne:j≠j':=by rintro rfl;rw[hb2] at a3;simp at a3
   exact I.pinj j j' q q' p p' hq a1 ha a2 hj (hanc j' a3).1 hb a4 hne hp a5 a6
 have hbb:∀ j,x.born.testBit j=false→born.testBit j=false∧r.anc.testBit j=false:=by
  intro j h
  rw[hborn] at h
  unfold bornOf at h
  rw[Nat.testBit_or,Bool.or_eq_false_iff] at h
  exact h
 refine hnx u ν tx' _ (done++[x]) todo' x.post x.born ?_
 refine⟨by simp[I.size],closed_set I hr hi hd,by rw[I.split,htd];simp,?_,?_,curOf_snoc _ _ _ _,gb.trans g,t1,fun t j q hq hj=>t4 t j q hq ((done_set hi).1 hj),fun t h=>t5 t (fun j q hq hj=>h j q hq ((done_set hi).2 hj)),t3,?_,?_,?_,?_,?_,?_⟩
 ·intro y hy
  rw[done_set hi]
  rcases List.mem_append.1 hy with h|h
  ·exact .inr (I.din y h)
  ·rw[List.mem_singleton] at h;subst h;exact .inl hxi
 ·intro y hy h
  rcases(done_set hi).1 h with h|h
  ·have:=hlt y hy;omega
  ·exact I.tout y (by rw[htd];exact List.mem_cons_of_mem _ hy) h
 ·intro j q hq ha hj hb
  obtain⟨hb1,hb2⟩:=hbb j hb
  have hji:=hnotA j q hq ha
  have hj':isDone listed j:=by
   rcases(done_set hi).1 hj with h|h
   ·exact absurd h hji
   ·exact h
  obtain⟨p,pk,hown⟩:=I.pend j q hq ha hj' hb1
  have hno:=hnotown j q p hq ha hj' hb1 hb2 pk.at_ hown
  refine⟨p,⟨g.ext _ _ pk.at_,fun ξ hξ=>(pk.rel ξ (Loc.le_trans g.ext hξ)).world (g.frame _ pk.lt hno),Nat.lt_of_lt_of_le pk.lt g.size,pk.ge⟩,fun ho=>hno (g.own _ ho pk.lt)⟩
 ·intro j k q q' p p' hq hq' ha ha' hj hk2 hb hb' hjk h1 h2
  have hj':isDone listed j:=by
   rcases(done_set hi).1 hj with h|h
   ·exact absurd h (hnotA j q hq ha)
   ·exact h
  have hk':isDone listed k:=by
   rcases(done_set hi).1 hk2 with h|h
   ·exact absurd h (hnotA k q' hq' ha')
   ·exact h
  obtain⟨p1,pk1,_⟩:=I.pend j q hq ha hj' (hbb j hb).1
  obtain⟨p2,pk2,_⟩:=I.pend k q' hq' ha' hk' (hbb k hb').1
  have e1:=g.ext _ _ pk1.at_
  have e2:=g.ext _ _ pk2.at_
  rw[h1] at e1;rw[h2] at e2
  simp only[Option.some.injEq] at e1 e2
  subst e1;subst e2
  exact I.pinj j k q q' _ _ hq hq' ha ha' hj' hk' (hbb j hb).1 (hbb k hb').1 hjk pk1.at_ pk2.at_
 ·intro j q hq ha hj
  have h:=I.unb j q hq ha (fun h=>hj ((done_set hi).2 (.inr h)))
  rw[g.low _ (by rw[hnxm];exact(I.nxm j q hq ha).2)]
  exact h
 ·intro j q hq ha hb
  obtain⟨hb1,hb2⟩:=hbb j hb
  refine kp.no _ (by rw[hnxm];exact(I.nxm j q hq ha).2) (bno _ (I.non j q hq ha hb1) ?_)
  intro j' q' hq' ha' h1 _ hid
  have:=S.ainj j' j q' q hq' hq ha' ha hid
  subst this
  rw[hb2] at h1;simp at h1
 ·intro j q hq ha
  have h1:=I.nxm j q hq ha
  have h2:=kp.nx
  rw[hnxm] at h2
  exact⟨h1.1,by omega⟩
 ·intro j hb
  rw[done_set hi]
  right
  rw[hborn] at hb
  unfold bornOf at hb
  rw[Nat.testBit_or,Bool.or_eq_true] at hb
  rcases hb with h|h
  ·exact I.bl j h
  ·exact(hanc j h).1
theorem quiet_at(env:Env)(recs:List Rec)(r:Rec)(i:Nat):∀ (a d0:List Eff) (b:List Eff) (cur:Heap) (born:Nat),quietP env recs r i d0 (a++b) cur born→
  quietP env recs r i (d0++a) b (curOf cur born a).1 (curOf cur born a).2:=by
 intro a
 induction a with
 |nil=>intro d0 b cur born h;simpa[curOf] using h
 |cons x a ih=>
  intro d0 b cur born h
  rw[List.cons_append,quietP] at h
  have:=ih (d0++[x]) b x.post x.born h.2
  simpa[curOf] using this
/-- What a quiet operation gives, wherever it stands. -/
theorem quiet_same(S:Shown env call nt ops recs traj tm0 h0)(I:SInv ops recs traj tm0 s h0 w0 μ0 sz listed tmps w μ tx done todo m born){i:Nat}{r:Rec}(hr:recs[i]? =some r)(hn:¬ isDone listed i)
  (hd:∀ e,e∈r.o.after.toList→Region.binds .any e=true→isDone listed e.on) (hw:r.want=true) (hk:r.kd=0):∃ g:Heap,Rep μ g w∧opQ env g tx r.o.op=some r.v:=by
 have htm:∀ g,opQ env g r.tm r.o.op=opQ env g tx r.o.op:=fun g=>opQ_tm (rd_eq (look_eq S I hr hn hd))
 cases hu:usesHeap r.o.op with
 |false=>
  obtain⟨h,e⟩:=S.q i r hr hw hk
  exact⟨m,I.go.rep,by rw[← htm,opQ_heap hu (h':=h)];exact e⟩
 |true=>
  have q:=S.quiet i r hr hw hk hu
  rw[I.split] at q
  have q2:=quiet_at env recs r i done [] todo h0 0 q
  rw[List.nil_append,I.cur] at q2
  unfold quietP at q2
  have q3:=q2.1
  rw[Bool.or_eq_true] at q3
  obtain⟨gb,_,_⟩:=births S I (mask:=r.anc) (fun k h=>(anc_done S I.closed i r hr hd k h).1) i
  rcases q3 with(h|h)|h
  ·exfalso
   rw[List.any_eq_true] at h
   obtain⟨x,hx,hb⟩:=h
   obtain⟨p,hp,_⟩:=traj_rec S x (by rw[I.split];exact List.mem_append_left _ hx)
   rw[hp] at hb
   exact hn (anc_done S I.closed x.i p hp (I.closed x.i p hp (I.din x hx)) i hb).1
  ·exfalso
   rw[List.any_eq_true] at h
   obtain⟨x,hx,hb⟩:=h
   exact I.tout x hx (anc_done S I.closed i r hr hd x.i hb).1
  ·refine⟨_,gb.rep,?_⟩
   rw[← htm]
   exact h
theorem quiet_of(env:Env)(recs:List Rec)(r:Rec)(i:Nat):∀ (b d:List Eff) (cur:Heap) (born:Nat),quietOK env recs r i d b cur born=true→quietP env recs r i d b cur born:=by
 intro b
 induction b with
 |nil=>
  intro d cur born h
  unfold quietOK at h
  unfold quietP
  rw[Bool.and_eq_true,Bool.or_eq_true] at h
  refine⟨?_,trivial⟩
  rcases h.1 with h|h
  ·exact .inl h
  ·right
   cases hq:opQ env (bear r.anc born (recs.take i) 0 cur) r.tm r.o.op with
   |none=>simp only[hq] at h;exact absurd h (by simp)
   |some v=>simp only[hq] at h;rw[veq_eq 3 v r.v h]
 |cons x b ih=>
  intro d cur born h
  unfold quietOK at h
  unfold quietP
  rw[Bool.and_eq_true,Bool.or_eq_true] at h
  refine⟨?_,ih _ _ _ h.2⟩
  rcases h.1 with h|h
  ·exact .inl h
  ·right
   cases hq:opQ env (bear r.anc born (recs.take i) 0 cur) r.tm r.o.op with
   |none=>simp only[hq] at h;exact absurd h (by simp)
   |some v=>simp only[hq] at h;rw[veq_eq 3 v r.v h]
end
end Go.PanE
