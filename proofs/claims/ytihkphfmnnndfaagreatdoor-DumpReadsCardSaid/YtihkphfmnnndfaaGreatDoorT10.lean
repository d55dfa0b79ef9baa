/-
 Part 10 of the proof of Rows.DumpReadsCardSaid: The guided machine: a region whose order is open.
 The guided machine: statements and functions.
 The guided machine: what is seen of a statement's end; parts of a function's text.
 The guided machine's facts: what shows them.
 This program's surroundings: functions without a body, and the byte that strings.IndexByte finds.
 No conditions.
-/
import Derived.Test.YtihkphfmnnndfaaGreatDoorT09
import Derived.DeepKeys4
import Derived.KernelRfl
import Derived.Laws.Externs
import Derived.Test.YtihkphfmnnndfaaGreatDoorProg
namespace Go.PanE
/-- Records that differ in what they keep of the slots alone. -/
inductive RR:List Rec→List Rec→Prop where
 |nil:RR [] []
 |cons (r:Rec) (l l':List Rec) (tm':T Value) (hA:Agree r.tm tm') (hk:r.want=true→r.kd=0→hasAll r.tm r.o.op=true) (h:RR l l'):RR (r::l) ({r with tm:=tm'}::l')
theorem RR.snoc{r:Rec}{tm':T Value}(hA:Agree r.tm tm')(hk:r.want=true→r.kd=0→hasAll r.tm r.o.op=true){l l':List Rec}(h:RR l l'):RR (l++[r]) (l'++[{r with tm:=tm'}]):=by
 induction h with
 |nil=>exact .cons r [] [] tm' hA hk .nil
 |cons q l l' t a b _ ih=>exact .cons q _ _ t a b ih
theorem RR.get{l l':List Rec}(h:RR l l'):∀ (i:Nat) (r':Rec),l'[i]? =some r'→∃ (r:Rec) (tm':T Value),l[i]? =some r∧r'={r with tm:=tm'}∧Agree r.tm tm'∧(r.want=true→r.kd=0→hasAll r.tm r.o.op=true):=by
 induction h with
 |nil=>intro i r' h;simp at h
 |cons q l l' t a b _ ih=>
  intro i r' h
  cases i with
  |zero=>
   simp only[List.getElem?_cons_zero,Option.some.injEq] at h;subst h
   exact⟨q,t,rfl,rfl,a,b⟩
  |succ i=>
   simp only[List.getElem?_cons_succ] at h ⊢
   exact ih i r' h
theorem RR.get2{l l':List Rec}(h:RR l l'):∀ (i:Nat),(∃ (r:Rec) (tm':T Value),l[i]? =some r∧l'[i]? =some {r with tm:=tm'})∨(l[i]? =none∧l'[i]? =none):=by
 induction h with
 |nil=>intro i;right;simp
 |cons q l l' t a b _ ih=>
  intro i
  cases i with
  |zero=>exact .inl ⟨q,t,rfl,rfl⟩
  |succ i=>simpa using ih i
theorem RR.take{l l':List Rec}(h:RR l l'):∀ n,RR (l.take n) (l'.take n):=by
 induction h with
 |nil=>intro n;simp;exact .nil
 |cons q l l' t a b _ ih=>
  intro n
  cases n with
  |zero=>exact .nil
  |succ n=>exact .cons q _ _ t a b (ih n)
theorem RR.bear{l l':List Rec}(h:RR l l')(mask born:Nat):∀ (k:Nat) (g:Heap),bear mask born l k g=bear mask born l' k g:=by
 induction h with
 |nil=>intro k g;rfl
 |cons q l l' t a b _ ih=>
  intro k g
  simp only[PanE.bear,ih]
  rfl
theorem RR.anc{l l':List Rec}(h:RR l l')(es:List Edge):ancOf l es=ancOf l' es:=by
 unfold ancOf
 congr 1
 funext s e
 rcases h.get2 e.on with⟨r,t,h1,h2⟩|⟨h1,h2⟩
 ·rw[h1,h2]
 ·rw[h1,h2]
theorem RR.chain{l l':List Rec}(h:RR l l'):∀ (tr:List Eff),chainOK l tr=chainOK l' tr:=by
 intro tr
 induction tr with
 |nil=>rfl
 |cons a tr ih=>
  cases tr with
  |nil=>rfl
  |cons b tr=>
   simp only[chainOK,ih]
   rcases h.get2 b.i with⟨r,t,h1,h2⟩|⟨h1,h2⟩
   ·rw[h1,h2]
   ·rw[h1,h2]
theorem zip_all_of{α:Type}(l:List α)(p:α×Nat→Bool)(h:∀ (i:Nat) (r:α),l[i]? =some r→p (r,i)=true):l.zipIdx.all p=true:=by
 rw[List.all_eq_true]
 rintro⟨r,i⟩ hx
 exact h i r (List.mk_mem_zipIdx_iff_getElem?.1 hx)
theorem RR.order{ops:List Oper}{l l':List Rec}(h:RR l l')(e:orderOK ops l=true):orderOK ops l'=true:=by
 unfold orderOK at e ⊢
 refine zip_all_of _ _ (fun i r' hr'=>?_)
 obtain⟨r,t,hr,rfl,_⟩:=h.get i r' hr'
 have h1:=zip_all _ _ e i r hr
 simp only[Bool.and_eq_true] at h1 ⊢
 refine⟨h1.1,zip_all_of _ _ (fun k q' hq'=>?_)⟩
 obtain⟨q,t2,hq,rfl,_⟩:=h.get k q' hq'
 exact zip_all _ _ h1.2 k q hq
section
variable (env:Env) (call:CallT) (nt:Nat) (ops:List Oper)
def gwalk1(k:Nat)(o:Oper)(gs:List Guess)(d:DS):Option (List Guess×List Prop×DS):=
 bif knowsG ops d.tm o then
  bif wantedA ops d.tm o then
   match gop env call gs (bear (ancOf d.recs o.after.toList) d.born d.recs 0 d.cur) d.tm o.op with
   |some (gs1,fs,.q v)=>bif Nat.beq (kindOf env o.op) 0 then
     match putD nt o.dst v d.tm with
     |some tm=>some (gs1,fs,{d with recs:=d.recs++[⟨o,ancOf d.recs o.after.toList,true,0,v,0,.map [],d.tm⟩],tm:=tm})
     |none=>none
    else none
   |some (gs1,fs,.a mk obj)=>bif Nat.beq (kindOf env o.op) 1 then
     match putD nt o.dst (mk d.na) d.tm with
     |some tm=>some (gs1,fs,{d with recs:=d.recs++[⟨o,ancOf d.recs o.after.toList,true,1,mk d.na,d.na,obj,d.tm⟩],tm:=tm,na:=d.na+1})
     |none=>none
    else none
   |some (gs1,fs,.e v post)=>bif Nat.ble 2 (kindOf env o.op) then
     match putD nt o.dst v d.tm with
     |some tm=>some (gs1,fs,{recs:=d.recs++[⟨o,ancOf d.recs o.after.toList,true,2,v,0,.map [],d.tm⟩],tm:=tm,cur:=post,born:=bornOf (ancOf d.recs o.after.toList) d.born,traj:=d.traj++[⟨k,bear (ancOf d.recs o.after.toList) d.born d.recs 0 d.cur,post,bornOf (ancOf d.recs o.after.toList) d.born⟩],na:=d.na})
     |none=>none
    else none
   |none=>none
  else match putD nt o.dst undef d.tm with
   |some tm=>some (gs,[],{d with recs:=d.recs++[⟨o,ancOf d.recs o.after.toList,false,kindOf env o.op,undef,0,.map [],d.tm⟩],tm:=tm})
   |none=>none
 else none
def gwalk:List Oper→Nat→List Guess→DS→Option (List Guess×List Prop×DS)
 |[],_,gs,d=>some (gs,[],d)
 |o::l,k,gs,d=>match gwalk1 env call nt ops k o gs d with
  |some (gs1,fs,d1)=>match gwalk l (k+1) gs1 d1 with
   |some (gs2,fs2,d2)=>some (gs2,fs++fs2,d2)
   |none=>none
  |none=>none
/-- The walk that is meant. -/
def DR(d d':DS):Prop:=RR d.recs d'.recs∧Agree d.tm d'.tm∧d'.cur=d.cur∧d'.born=d.born∧d'.traj=d.traj∧d'.na=d.na
theorem comp_q{h:Heap}{tm:T Value}{op:Op}{v:Value}(e:comp env call h tm op=some (.q v)):opQ env h tm op=some v:=by
 unfold comp at e
 split at e
 ·rename_i v' hq
  simp only[Option.some.injEq,GO.q.injEq] at e;subst e;exact hq
 ·split at e
  ·simp at e
  ·split at e
   ·simp at e
   ·simp at e
theorem comp_a{h:Heap}{tm:T Value}{op:Op}{mk:Nat→Value}{obj:AObj}(e:comp env call h tm op=some (.a mk obj)):opA env tm op=some (mk,obj):=by
 unfold comp at e
 split at e
 ·simp at e
 ·split at e
  ·rename_i mk' obj' ha
   simp only[Option.some.injEq,GO.a.injEq] at e
   rw[ha,e.1,e.2]
  ·split at e
   ·simp at e
   ·simp at e
theorem comp_e{h:Heap}{tm:T Value}{op:Op}{v:Value}{h':Heap}(e:comp env call h tm op=some (.e v h')):opE env call h tm op=some (v,h'):=by
 unfold comp at e
 split at e
 ·simp at e
 ·split at e
  ·simp at e
  ·split at e
   ·rename_i v' g he
    simp only[Option.some.injEq,GO.e.injEq] at e
    rw[he,e.1,e.2]
   ·simp at e
theorem gwalk1_ok{k:Nat}{o:Oper}{gs gs':List Guess}{d d1:DS}{fs:List Prop}(e:gwalk1 env call nt ops k o gs d=some (gs',fs,d1))(hf:holds fs){d':DS}(R:DR d d'):
  ∃ d1',walk1 env call nt ops k o d'=some d1'∧DR d1 d1':=by
 obtain⟨R1,R2,R3,R4,R5,R6⟩:=R
 unfold gwalk1 at e
 unfold walk1
 simp only
 rw[← R1.anc,← R1.bear,R3,R4]
 cases hk:knowsG ops d.tm o with
 |false=>rw[hk] at e;simp at e
 |true=>
  rw[hk] at e
  simp only[cond_true] at e
  have hw:=wanted_agree R2 hk
  rw[← hw]
  cases hwa:wantedA ops d.tm o with
  |false=>
   rw[hwa] at e
   simp only[cond_false] at e
   rw[if_neg (by simp)]
   split at e
   ·rename_i tm hp
    simp only[Option.some.injEq,Prod.mk.injEq] at e
    obtain⟨_,_,rfl⟩:=e
    obtain⟨tm',h1,h2⟩:=putD_agree nt R2 hp
    rw[h1]
    exact⟨_,rfl,R1.snoc (r:=⟨o,_,false,kindOf env o.op,undef,0,.map [],d.tm⟩) R2 (by simp),h2,rfl,rfl,R5,R6⟩
   ·simp at e
  |true=>
   rw[hwa] at e
   simp only[cond_true] at e
   rw[if_pos rfl]
   have hall:∀ {x:List Guess×List Prop×GO},gop env call gs (PanE.bear (ancOf d.recs o.after.toList) d.born d.recs 0 d.cur) d.tm o.op=some x→hasAll d.tm o.op=true:=by
    intro x hx
    unfold gop at hx
    cases ha:hasAll d.tm o.op with
    |true=>rfl
    |false=>rw[ha] at hx;simp at hx
   split at e
   ·rename_i gs1 fs1 v hop
    have hall':=hall hop
    cases hkd:Nat.beq (kindOf env o.op) 0 with
    |false=>rw[hkd] at e;simp at e
    |true=>
     rw[hkd] at e
     simp only[cond_true] at e
     rw[Nat.eq_of_beq_eq_true hkd]
     simp only
     split at e
     ·rename_i tm hp
      simp only[Option.some.injEq,Prod.mk.injEq] at e
      obtain⟨_,rfl,rfl⟩:=e
      obtain⟨tm',h1,h2⟩:=putD_agree nt R2 hp
      rw[comp_q env call (gop_comp env call R2 hop hf)]
      simp only
      rw[h1]
      exact⟨_,rfl,R1.snoc (r:=⟨o,_,true,0,v,0,.map [],d.tm⟩) R2 (fun _ _=>hall'),h2,rfl,rfl,R5,R6⟩
     ·simp at e
   ·rename_i gs1 fs1 mk obj hop
    cases hkd:Nat.beq (kindOf env o.op) 1 with
    |false=>rw[hkd] at e;simp at e
    |true=>
     rw[hkd] at e
     simp only[cond_true] at e
     rw[Nat.eq_of_beq_eq_true hkd]
     simp only
     split at e
     ·rename_i tm hp
      simp only[Option.some.injEq,Prod.mk.injEq] at e
      obtain⟨_,rfl,rfl⟩:=e
      obtain⟨tm',h1,h2⟩:=putD_agree nt R2 hp
      rw[comp_a env call (gop_comp env call R2 hop hf)]
      simp only
      rw[R6,h1]
      exact⟨_,rfl,R1.snoc (r:=⟨o,_,true,1,mk d.na,d.na,obj,d.tm⟩) R2 (by simp),h2,rfl,rfl,R5,rfl⟩
     ·simp at e
   ·rename_i gs1 fs1 v post hop
    cases hkd:Nat.ble 2 (kindOf env o.op) with
    |false=>rw[hkd] at e;simp at e
    |true=>
     rw[hkd] at e
     simp only[cond_true] at e
     have hkd2:2≤kindOf env o.op:=Nat.le_of_ble_eq_true hkd
     split at e
     ·rename_i tm hp
      simp only[Option.some.injEq,Prod.mk.injEq] at e
      obtain⟨_,rfl,rfl⟩:=e
      obtain⟨tm',h1,h2⟩:=putD_agree nt R2 hp
      have he:=comp_e env call (gop_comp env call R2 hop hf)
      split
      ·omega
      ·omega
      ·rw[he]
       simp only
       rw[h1,R5]
       exact⟨_,rfl,R1.snoc (r:=⟨o,_,true,2,v,0,.map [],d.tm⟩) R2 (by simp),h2,rfl,rfl,rfl,R6⟩
     ·simp at e
   ·simp at e
theorem gwalk_ok:∀ (l:List Oper) (k:Nat) (gs gs':List Guess) (d d1:DS) (fs:List Prop),gwalk env call nt ops l k gs d=some (gs',fs,d1)→holds fs→∀ d',DR d d'→
  ∃ d1',walk env call nt ops l k d'=some d1'∧DR d1 d1':=by
 intro l
 induction l with
 |nil=>
  intro k gs gs' d d1 fs e hf d' R
  simp only[gwalk,Option.some.injEq,Prod.mk.injEq] at e
  obtain⟨_,_,rfl⟩:=e
  exact⟨d',rfl,R⟩
 |cons o l ih=>
  intro k gs gs' d d1 fs e hf d' R
  simp only[gwalk] at e
  split at e
  ·rename_i gs1 fs1 d2 h1
   split at e
   ·rename_i gs2 fs2 d3 h2
    simp only[Option.some.injEq,Prod.mk.injEq] at e
    obtain⟨_,rfl,rfl⟩:=e
    rw[holds_append] at hf
    obtain⟨d2',h3,R2⟩:=gwalk1_ok env call nt ops h1 hf.1 R
    obtain⟨d3',h4,R3⟩:=ih (k+1) gs1 gs2 d2 d3 fs2 h2 hf.2 d2' R2
    refine⟨d3',?_,R3⟩
    simp only[walk,h3]
    exact h4
   ·simp at e
  ·simp at e
/-- What is to be shown of a quiet operation. -/
def qf(recs:List Rec)(r:Rec)(i:Nat):List Eff→List Eff→Heap→Nat→List Prop
 |done,todo,cur,born=>
  (bif (done.any fun x=>match recs[x.i]? with|some q=>bitB q.anc i|none=>true) || (todo.any fun x=>bitB r.anc x.i) then[]
   else[opQ env (bear r.anc born (recs.take i) 0 cur) r.tm r.o.op=some r.v])++
  (match todo with
   |[]=>[]
   |x::todo'=>qf recs r i (done++[x]) todo' x.post x.born)
def qfAll(recs:List Rec)(traj:List Eff)(h0:Heap):List Rec→Nat→List Prop
 |[],_=>[]
 |r::l,i=>(bif r.want && Nat.beq r.kd 0 && usesHeap r.o.op then qf env recs r i [] traj h0 0 else[])++qfAll recs traj h0 l (i+1)
theorem qfAll_get(recs:List Rec)(traj:List Eff)(h0:Heap):∀ (l:List Rec) (k:Nat),holds (qfAll env recs traj h0 l k)→∀ (i:Nat) (r:Rec),l[i]? =some r→r.want=true→r.kd=0→usesHeap r.o.op=true→holds (qf env recs r (k+i) [] traj h0 0):=by
 intro l
 induction l with
 |nil=>intro k _ i r h;simp at h
 |cons q l ih=>
  intro k hf i r h hw hk hu
  rw[qfAll,holds_append] at hf
  cases i with
  |zero=>
   simp only[List.getElem?_cons_zero,Option.some.injEq] at h;subst h
   have:=hf.1
   rw[hw,hk,hu] at this
   exact this
  |succ i=>
   have:=ih (k+1) hf.2 i r (by simpa using h) hw hk hu
   rw[show k+(i+1)=k+1+i by omega]
   exact this
theorem qf_ok{recs recs':List Rec}(RR1:RR recs recs'){r:Rec}{tm':T Value}(A:Agree r.tm tm')(hall:hasAll r.tm r.o.op=true)(i:Nat):∀ (todo done:List Eff) (cur:Heap) (born:Nat),holds (qf env recs r i done todo cur born)→
  quietP env recs' {r with tm:=tm'} i done todo cur born:=by
 have one:∀ (todo done:List Eff) (cur:Heap) (born:Nat),holds (bif (done.any fun x=>match recs[x.i]? with|some q=>bitB q.anc i|none=>true) || (todo.any fun x=>bitB r.anc x.i) then[]
   else[opQ env (bear r.anc born (recs.take i) 0 cur) r.tm r.o.op=some r.v])→
   ((done.any fun x=>match recs'[x.i]? with|some q=>bitB q.anc i|none=>true) || (todo.any fun x=>bitB r.anc x.i))=true∨opQ env (bear r.anc born (recs'.take i) 0 cur) tm' r.o.op=some r.v:=by
  intro todo done cur born h
  have hd:(done.any fun x=>match recs[x.i]? with|some q=>bitB q.anc i|none=>true)=(done.any fun x=>match recs'[x.i]? with|some q=>bitB q.anc i|none=>true):=by
   congr 1
   funext x
   rcases RR1.get2 x.i with⟨q,t,h1,h2⟩|⟨h1,h2⟩
   ·rw[h1,h2]
   ·rw[h1,h2]
  rw[hd] at h
  cases hc:((done.any fun x=>match recs'[x.i]? with|some q=>bitB q.anc i|none=>true) || (todo.any fun x=>bitB r.anc x.i)) with
  |true=>exact .inl rfl
  |false=>
   right
   rw[hc] at h
   rw[← (RR1.take i).bear,← opQ_tm (hasAll_rd A hall)]
   exact h.1
 intro todo
 induction todo with
 |nil=>
  intro done cur born h
  unfold qf at h
  rw[holds_append] at h
  unfold quietP
  exact⟨one [] done cur born h.1,trivial⟩
 |cons x todo ih=>
  intro done cur born h
  unfold qf at h
  rw[holds_append] at h
  unfold quietP
  exact⟨one (x::todo) done cur born h.1,ih _ _ _ h.2⟩
/-- A region whose order is open, by guesses. -/
def gdraw(gs:List Guess)(s:St):Option (List Guess×List Prop×St):=
 match gwalk env call nt ops ops 0 gs ⟨[],s.tm,reserve (countA env ops) s.h,0,[],s.h.nx⟩ with
 |some (gs',fs,d)=>
  bif orderOK ops d.recs && chainOK d.recs d.traj then
   some (gs',fs++((d.na=s.h.nx+countA env ops)::qfAll env d.recs d.traj (reserve (countA env ops) s.h) d.recs 0),⟨d.tm,bear (2 ^ ops.length - 1) d.born d.recs 0 d.cur⟩)
  else none
 |none=>none
theorem gdraw_ok{gs gs':List Guess}{s s':St}{fs:List Prop}(e:gdraw env call nt ops gs s=some (gs',fs,s'))(hf:holds fs){tm:T Value}(A:Agree s.tm tm):
  ∃ tm',drawP env call nt ops ⟨tm,s.h⟩=some ⟨tm',s'.h⟩∧Agree s'.tm tm':=by
 unfold gdraw at e
 split at e
 ·rename_i gs1 fs1 d hw
  cases hc:(orderOK ops d.recs && chainOK d.recs d.traj) with
  |false=>rw[hc] at e;simp at e
  |true=>
   rw[hc] at e
   simp only[cond_true,Option.some.injEq,Prod.mk.injEq] at e
   obtain⟨_,rfl,rfl⟩:=e
   rw[holds_append] at hf
   obtain⟨hf1,hna,hq⟩:=hf
   rw[Bool.and_eq_true] at hc
   obtain⟨d',h1,R1,R2,R3,R4,R5,R6⟩:=gwalk_ok env call nt ops ops 0 gs gs1 _ d fs1 hw hf1 ⟨[],tm,reserve (countA env ops) s.h,0,[],s.h.nx⟩ ⟨.nil,A,rfl,rfl,rfl,rfl⟩
   refine⟨d'.tm,?_,R2⟩
   unfold drawP
   simp only
   rw[h1]
   simp only
   rw[R1.order hc.1,R5,← R1.chain,hc.2,R6,hna]
   have hbeq:Nat.beq (s.h.nx+countA env ops) (s.h.nx+countA env ops)=true:=Nat.beq_refl _
   rw[hbeq]
   simp only[Bool.and_self,cond_true]
   have hall:quietAll env d'.recs d.traj (reserve (countA env ops) s.h):=by
    intro i r' hr' hw' hk' hu'
    obtain⟨r,t,hr,rfl,hA,hh⟩:=R1.get i r' hr'
    have:=qfAll_get env d.recs d.traj _ d.recs 0 hq i r hr hw' hk' hu'
    rw[Nat.zero_add] at this
    exact qf_ok env R1 hA (hh hw' hk') i _ _ _ _ this
   rw[R4,R3,← R1.bear]
   cases hqq:(d'.recs.zipIdx.all fun(r,i)=>!r.want || !Nat.beq r.kd 0 || !usesHeap r.o.op || quietOK env d'.recs r i [] d.traj (reserve (countA env ops) s.h) 0) with
   |true=>rfl
   |false=>
    simp only[cond_false]
    rw[if_pos hall]
 ·simp at e
end
end Go.PanE
namespace Go.PanE
def mkOv(l:List (Nat×Value)):T Value:=l.foldl (fun t p=>t.put p.1 p.2) .nil
def AgL:List (Nat×Value)→T Value→Prop
 |[],_=>True
 |p::l,tm=>rdT tm p.1=p.2∧AgL l tm
theorem agree_nil(tm:T Value):Agree .nil tm:=by
 intro t v h
 have:(T.nil:T Value).get t=none:=by cases t <;>rfl
 rw[this] at h;simp at h
theorem agree_fold{tm:T Value}:∀ (l:List (Nat×Value)) (ov:T Value),Agree ov tm→AgL l tm→Agree (l.foldl (fun t p=>t.put p.1 p.2) ov) tm:=by
 intro l
 induction l with
 |nil=>intro ov A _;exact A
 |cons p l ih=>
  intro ov A h
  refine ih (ov.put p.1 p.2) ?_ h.2
  intro t v hv
  rw[T.get_put] at hv
  split at hv
  ·rename_i e
   simp only[Option.some.injEq] at hv;subst hv;rw[e];exact h.1
  ·exact A t v hv
theorem agree_mk{l:List (Nat×Value)}{tm:T Value}(h:AgL l tm):Agree (mkOv l) tm:=agree_fold l .nil (agree_nil tm) h
section
variable (env:Env) (call:CallT) (nt:Nat) (L:Nat)
/-- A statement, by guesses. -/
def gec:Code→List Guess→St→Option (List Guess×List Prop×Ex×St)
 | .skip=>fun gs s=>some (gs,[],.normal,s)
 | .label _=>fun gs s=>some (gs,[],.normal,s)
 | .region _ ops dr=>fun gs s=>
  match(bif dr then gdraw env call nt ops.toList gs s else gops env call nt ops.toList ops.toList gs s) with
  |some (gs',fs,s')=>some (gs',fs,.normal,s')
  |none=>none
 | .seq a b=>fun gs s=>match gec a gs s with
  |some (gs1,fs,.normal,s1)=>match gec b gs1 s1 with
   |some (gs2,fs2,x,s2)=>some (gs2,fs++fs2,x,s2)
   |none=>none
  |r=>r
 | .cond c a b=>fun gs s=>bif knows s.tm c then match rd s.tm c with
  |some (.bool t)=>bif t then gec a gs s else gec b gs s
  |_=>none else none
 | .block id b=>fun gs s=>match gec b gs s with
  |some (gs1,fs,.exit i,s')=>if i=id then some (gs1,fs,.normal,s') else some (gs1,fs,.exit i,s')
  |r=>r
 | .loop b=>fun gs s=>match gs with
  | .s x l h'::gs=>some (gs,[∀ tm,Agree s.tm tm→∃ tm',iterA (ecA env call nt (drawP env call nt) L b) L ⟨tm,s.h⟩=some (x,⟨tm',h'⟩)∧AgL l tm'],x,⟨mkOv l,h'⟩)
  |_=>none
 | .exit id=>fun gs s=>some (gs,[],.exit id,s)
 | .ret=>fun gs s=>some (gs,[],.ret,s)
 |_=>fun _ _=>none
theorem gec_ok:∀ (c:Code) (gs gs':List Guess) (s s':St) (x:Ex) (fs:List Prop),gec env call nt L c gs s=some (gs',fs,x,s')→holds fs→∀ tm,Agree s.tm tm→
  ∃ tm',ecA env call nt (drawP env call nt) L c ⟨tm,s.h⟩=some (x,⟨tm',s'.h⟩)∧Agree s'.tm tm':=by
 intro c
 induction c with
 |skip=>
  intro gs gs' s s' x fs e hf tm A
  simp only[gec,Option.some.injEq,Prod.mk.injEq] at e
  obtain⟨_,_,rfl,rfl⟩:=e
  exact⟨tm,rfl,A⟩
 |label l=>
  intro gs gs' s s' x fs e hf tm A
  simp only[gec,Option.some.injEq,Prod.mk.injEq] at e
  obtain⟨_,_,rfl,rfl⟩:=e
  exact⟨tm,rfl,A⟩
 |region id ops dr=>
  intro gs gs' s s' x fs e hf tm A
  simp only[gec] at e
  split at e
  ·rename_i gs1 fs1 s1 h1
   simp only[Option.some.injEq,Prod.mk.injEq] at e
   obtain⟨_,rfl,rfl,rfl⟩:=e
   cases dr with
   |true=>
    simp only[cond_true] at h1
    obtain⟨tm',h2,A2⟩:=gdraw_ok env call nt ops.toList h1 hf A
    exact⟨tm',by simp only[ecA,cond_true,h2],A2⟩
   |false=>
    simp only[cond_false] at h1
    obtain⟨tm',h2,A2⟩:=gops_ok env call nt ops.toList _ _ _ _ _ _ h1 hf tm A
    exact⟨tm',by simp only[ecA,cond_false,h2],A2⟩
  ·simp at e
 |seq a b iha ihb=>
  intro gs gs' s s' x fs e hf tm A
  simp only[gec] at e
  split at e
  ·rename_i gs1 fs1 s1 h1
   split at e
   ·rename_i gs2 fs2 x2 s2 h2
    simp only[Option.some.injEq,Prod.mk.injEq] at e
    obtain⟨_,rfl,rfl,rfl⟩:=e
    rw[holds_append] at hf
    obtain⟨tm1,h3,A1⟩:=iha _ _ _ _ _ _ h1 hf.1 tm A
    obtain⟨tm2,h4,A2⟩:=ihb _ _ _ _ _ _ h2 hf.2 tm1 A1
    exact⟨tm2,by simp only[ecA,h3,h4],A2⟩
   ·simp at e
  ·rename_i hnn
   obtain⟨tm1,h3,A1⟩:=iha _ _ _ _ _ _ e hf tm A
   refine⟨tm1,?_,A1⟩
   simp only[ecA,h3]
   cases x with
   |normal=>exact absurd e (hnn _ _ _)
   |_=>rfl
 |cond c a b iha ihb=>
  intro gs gs' s s' x fs e hf tm A
  simp only[gec] at e
  cases hk:knows s.tm c with
  |false=>rw[hk] at e;simp at e
  |true=>
   rw[hk] at e
   simp only[cond_true] at e
   have hr:=knows_rd A hk
   split at e
   ·rename_i t ht
    rw[hr] at ht
    cases t with
    |true=>
     obtain⟨tm1,h3,A1⟩:=iha _ _ _ _ _ _ e hf tm A
     exact⟨tm1,by simp only[ecA,ht];exact h3,A1⟩
    |false=>
     obtain⟨tm1,h3,A1⟩:=ihb _ _ _ _ _ _ e hf tm A
     exact⟨tm1,by simp only[ecA,ht];exact h3,A1⟩
   ·simp at e
 |block id b ih=>
  intro gs gs' s s' x fs e hf tm A
  simp only[gec] at e
  split at e
  ·rename_i gs1 fs1 i s1 h1
   split at e
   ·rename_i hi
    simp only[Option.some.injEq,Prod.mk.injEq] at e
    obtain⟨_,rfl,rfl,rfl⟩:=e
    obtain⟨tm1,h3,A1⟩:=ih _ _ _ _ _ _ h1 hf tm A
    exact⟨tm1,by simp only[ecA,h3,if_pos hi],A1⟩
   ·rename_i hi
    simp only[Option.some.injEq,Prod.mk.injEq] at e
    obtain⟨_,rfl,rfl,rfl⟩:=e
    obtain⟨tm1,h3,A1⟩:=ih _ _ _ _ _ _ h1 hf tm A
    exact⟨tm1,by simp only[ecA,h3,if_neg hi],A1⟩
  ·rename_i hnn
   obtain⟨tm1,h3,A1⟩:=ih _ _ _ _ _ _ e hf tm A
   refine⟨tm1,?_,A1⟩
   simp only[ecA,h3]
   cases x with
   |exit i=>exact absurd e (hnn _ _ _ _)
   |_=>rfl
 |loop b ih=>
  intro gs gs' s s' x fs e hf tm A
  simp only[gec] at e
  split at e
  ·rename_i x1 l h1 gs1
   simp only[Option.some.injEq,Prod.mk.injEq] at e
   obtain⟨_,rfl,rfl,rfl⟩:=e
   obtain⟨tm',h2,A2⟩:=hf.1 tm A
   exact⟨tm',by simp only[ecA];exact h2,agree_mk A2⟩
  ·simp at e
 |exit id=>
  intro gs gs' s s' x fs e hf tm A
  simp only[gec,Option.some.injEq,Prod.mk.injEq] at e
  obtain⟨_,_,rfl,rfl⟩:=e
  exact⟨tm,rfl,A⟩
 |ret=>
  intro gs gs' s s' x fs e hf tm A
  simp only[gec,Option.some.injEq,Prod.mk.injEq] at e
  obtain⟨_,_,rfl,rfl⟩:=e
  exact⟨tm,rfl,A⟩
 |_=>intro gs gs' s s' x fs e;simp[gec] at e
/-- Results, by guesses. -/
def gres(h:Heap)(ov:T Value):List ResultVar→List Value→Option (List Prop)
 |[],[]=>some []
 | .tmp t::rs,v::vs=>match ov.get t with
  |some u=>match gres h ov rs vs with|some l=>some ((u=v)::l)|none=>none
  |none=>none
 | .cell a t::rs,v::vs=>match ov.get a with
  |some (.pointer (some ad))=>match gres h ov rs vs with|some l=>some ((loadV env h t ad=some v)::l)|none=>none
  |_=>none
 |_,_=>none
theorem gres_ok{h:Heap}{ov tm:T Value}(A:Agree ov tm):∀ (rs:List ResultVar) (vs:List Value) (fs:List Prop),gres env h ov rs vs=some fs→holds fs→resAll env h tm rs=some vs:=by
 intro rs
 induction rs with
 |nil=>
  intro vs fs e hf
  cases vs with
  |nil=>rfl
  |cons v vs=>simp[gres] at e
 |cons r rs ih=>
  intro vs fs e hf
  cases vs with
  |nil=>cases r <;>simp[gres] at e
  |cons v vs=>
   cases r with
   |tmp t=>
    simp only[gres] at e
    split at e
    ·rename_i u hu
     split at e
     ·rename_i l hl
      simp only[Option.some.injEq] at e;subst e
      obtain⟨rfl,h2⟩:=hf
      simp only[resAll,resOne,A t u hu,ih vs l hl h2]
     ·simp at e
    ·simp at e
   |cell a t=>
    simp only[gres] at e
    split at e
    ·rename_i ad hu
     split at e
     ·rename_i l hl
      simp only[Option.some.injEq] at e;subst e
      obtain⟨h1,h2⟩:=hf
      simp only[resAll,resOne,A a _ hu,ih vs l hl h2,h1]
     ·simp at e
    ·simp at e
def pack:List Value→Value
 |[v]=>v
 |vs=>.tuple ⟨vs⟩
def finish(h:Heap)(v:Value)(g:Heap):Value×Heap:=if Nat.ble h.nx g.wm && lowV h.nx 5 v then(v,h) else(v,{g with wm:=min h.wm g.wm})
variable (orc:FuncId→Option (List Value→Heap→Option (Value×Heap)))
/-- A function, by guesses. -/
noncomputable def gfun(n:Nat)(f:FuncId)(gs:List Guess)(args:List Value)(h:Heap)(vs:List Value):Option (List Prop×Heap):=
 match orc f with
 |some _=>none
 |none=>match env.fn f with
  |some fn=>match fn.body with
   |some c=>bif Nat.ble args.length fn.ntmps then
     match gec env (runA env orc (drawn env) L n) fn.ntmps L c gs ⟨mkTm args 0 .nil,{h with wm:=h.nx}⟩ with
     |some ([],fs,.normal,s)=>match gres env s.h s.tm fn.results.toList vs with|some l=>some (fs++l,s.h)|none=>none
     |some ([],fs,.ret,s)=>match gres env s.h s.tm fn.results.toList vs with|some l=>some (fs++l,s.h)|none=>none
     |_=>none
    else none
   |none=>none
  |none=>none
theorem gfun_ok{n:Nat}{f:FuncId}{gs:List Guess}{args:List Value}{h g:Heap}{vs:List Value}{fs:List Prop}(e:gfun env L orc n f gs args h vs=some (fs,g))(hf:holds fs):
  runA env orc (drawn env) L (n+1) f args h=some (finish h (pack vs) g):=by
 unfold gfun at e
 split at e
 ·simp at e
 ·rename_i ho
  split at e
  ·rename_i fn hfn
   split at e
   ·rename_i c hc
    cases hb:Nat.ble args.length fn.ntmps with
    |false=>rw[hb] at e;simp at e
    |true=>
     rw[hb] at e
     simp only[cond_true] at e
     have fin:∀ (fs1 l:List Prop) (x:Ex) (s:St),(x= .normal∨x= .ret)→gec env (runA env orc (drawn env) L n) fn.ntmps L c gs ⟨mkTm args 0 .nil,{h with wm:=h.nx}⟩=some ([],fs1,x,s)→gres env s.h s.tm fn.results.toList vs=some l→holds (fs1++l)→
       runA env orc (drawn env) L (n+1) f args h=some (finish h (pack vs) s.h):=by
      intro fs1 l x s hx hg hr hh
      rw[holds_append] at hh
      obtain⟨tm',h1,A⟩:=gec_ok env (runA env orc (drawn env) L n) fn.ntmps L c _ _ _ _ _ _ hg hh.1 (mkTm args 0 .nil) (fun t v e=>by simp[rdT,e])
      have h2:=gres_ok env A _ _ _ hr hh.2
      have h3:resultsA env fn ⟨tm',s.h⟩=some (pack vs):=by
       unfold resultsA
       rw[h2]
       match vs with
       |[]=>rfl
       |[v]=>rfl
       |_::_::_=>rfl
      simp only[runA,ho,hfn,hc,hb,if_true,bodyA]
      have h1':ecA env (runA env orc (drawn env) L n) fn.ntmps (drawn env (runA env orc (drawn env) L n) fn.ntmps) L c ⟨mkTm args 0 .nil,{h with wm:=h.nx}⟩=some (x,⟨tm',s.h⟩):=h1
      rw[h1']
      rcases hx with rfl|rfl
      ·simp only[h3,finish];split <;>rfl
      ·simp only[h3,finish];split <;>rfl
     split at e
     ·rename_i fs1 s hg
      split at e
      ·rename_i l hl
       simp only[Option.some.injEq,Prod.mk.injEq] at e
       obtain⟨rfl,rfl⟩:=e
       exact fin fs1 l _ s (.inl rfl) hg hl hf
      ·simp at e
     ·rename_i fs1 s hg
      split at e
      ·rename_i l hl
       simp only[Option.some.injEq,Prod.mk.injEq] at e
       obtain⟨rfl,rfl⟩:=e
       exact fin fs1 l _ s (.inr rfl) hg hl hf
      ·simp at e
     ·simp at e
   ·simp at e
  ·simp at e
end
end Go.PanE
namespace Go.PanE
/-- What is seen of some slots. -/
def gslots(ov:T Value):List (Nat×Value)→Option (List Prop)
 |[]=>some []
 |p::l=>match ov.get p.1,gslots ov l with
  |some u,some fs=>some ((u=p.2)::fs)
  |_,_=>none
theorem gslots_ok{ov tm:T Value}(A:Agree ov tm):∀ (l:List (Nat×Value)) (fs:List Prop),gslots ov l=some fs→holds fs→AgL l tm:=by
 intro l
 induction l with
 |nil=>intro fs _ _;trivial
 |cons p l ih=>
  intro fs e hf
  simp only[gslots] at e
  split at e
  ·rename_i u fs1 hu h1
   simp only[Option.some.injEq] at e;subst e
   exact⟨by rw[A _ _ hu];exact hf.1,ih fs1 h1 hf.2⟩
  ·simp at e
section
variable (env:Env) (call:CallT) (nt:Nat) (L:Nat)
/-- A statement from some slots to some slots, by guesses. -/
def gsee(c:Code)(gs:List Guess)(l:List (Nat×Value))(h:Heap)(l':List (Nat×Value)):Option (List Prop×Ex×Heap):=
 match gec env call nt L c gs ⟨mkOv l,h⟩ with
 |some ([],fs,x,s)=>match gslots s.tm l' with
  |some fs2=>some (fs++fs2,x,s.h)
  |none=>none
 |_=>none
theorem gsee_ok{c:Code}{gs:List Guess}{l l':List (Nat×Value)}{h h':Heap}{fs:List Prop}{x:Ex}(e:gsee env call nt L c gs l h l'=some (fs,x,h'))(hf:holds fs){tm:T Value}(A:AgL l tm):
  ∃ tm',ecA env call nt (drawP env call nt) L c ⟨tm,h⟩=some (x,⟨tm',h'⟩)∧AgL l' tm':=by
 unfold gsee at e
 split at e
 ·rename_i fs1 x1 s1 h1
  split at e
  ·rename_i fs2 h2
   simp only[Option.some.injEq,Prod.mk.injEq] at e
   obtain⟨rfl,rfl,rfl⟩:=e
   rw[holds_append] at hf
   obtain⟨tm',h3,A2⟩:=gec_ok env call nt L c _ _ _ _ _ _ h1 hf.1 tm (agree_mk A)
   exact⟨tm',h3,gslots_ok A2 _ _ h2 hf.2⟩
  ·simp at e
 ·simp at e
end
def Heap.fresh(h:Heap):Heap:={h with wm:=h.nx}
/-- What a store makes. -/
def stF:Option Heap→Option (Value×Heap)
 |some h=>some (undef,h)
 |none=>none
/-- A byte of a string. -/
def bAt(s:ByteArray)(i:Int):Nat:=((s.data.toList.drop i.toNat).headD 0).toNat
/-- A string's bytes as a new object. -/
def strObj(b:ByteArray):Option ((Nat→Value)×AObj):=
 if Nat.ble b.data.toList.length 140737488355328 then
  some (fun k=>.slice (some ⟨k,0,none⟩) b.data.toList.length b.data.toList.length,.row 5 (b.data.toList.map fun x=>.int .u8 (x.toNat:Int)) 1 false)
 else none
/-- A part of a text. -/
def sub:List Nat→Code→Code
 |[],c=>c
 |0::l,.seq a _=>sub l a
 |1::l,.seq _ b=>sub l b
 |0::l,.cond _ a _=>sub l a
 |1::l,.cond _ _ b=>sub l b
 |0::l,.block _ b=>sub l b
 |0::l,.loop b=>sub l b
 |_,_=>.skip
def bodyOf(f:Func):Code:=match f.body with|some c=>c|none=>.skip
theorem iter_on{f:St→Option (Ex×St)}{s s1:St}(e:f s=some (.normal,s1))(n:Nat):iterA f (n+1) s=iterA f n s1:=by
 simp only[iterA,e]
theorem iter_out{f:St→Option (Ex×St)}{s s1:St}{i:Nat}(e:f s=some (.exit i,s1))(n:Nat):iterA f (n+1) s=some (.exit i,s1):=by
 simp only[iterA,e]
theorem iter_ret{f:St→Option (Ex×St)}{s s1:St}(e:f s=some (.ret,s1))(n:Nat):iterA f (n+1) s=some (.ret,s1):=by
 simp only[iterA,e]
end Go.PanE
namespace Go.PanE
theorem Heap.get_fresh(h:Heap)(b:Nat):(Heap.fresh h).get b=h.get b:=rfl
theorem Heap.nx_fresh(h:Heap):(Heap.fresh h).nx=h.nx:=rfl
theorem Heap.wm_fresh(h:Heap):(Heap.fresh h).wm=h.nx:=rfl
theorem Heap.nx_alloc(h:Heap)(o:AObj):(h.alloc o).nx=h.nx+1:=rfl
theorem Heap.wm_alloc(h:Heap)(o:AObj):(h.alloc o).wm=h.wm:=rfl
theorem Heap.nx_put(h:Heap)(b:Nat)(o:AObj):(h.put b o).nx=h.nx:=rfl
theorem Heap.wm_put(h:Heap)(b:Nat)(o:AObj):(h.put b o).wm=min b h.wm:=wm_min b h.wm
theorem Heap.nx_reserve(n:Nat)(h:Heap):(reserve n h).nx=h.nx+n:=(reserve_spec n h).1
theorem Heap.wm_reserve(n:Nat)(h:Heap):(reserve n h).wm=h.wm:=(reserve_spec n h).2.1
theorem Heap.get_reserve(n:Nat)(h:Heap){b:Nat}(hb:b < h.nx):(reserve n h).get b=h.get b:=by rw[(reserve_spec n h).2.2,if_pos hb]
theorem Heap.get_new(h:Heap)(o:AObj):(h.alloc o).get h.nx=some o:=by rw[Heap.get_alloc,if_pos rfl]
theorem Heap.get_old(h:Heap)(o:AObj){b:Nat}(hb:b < h.nx):(h.alloc o).get b=h.get b:=by rw[Heap.get_alloc,if_neg (by omega)]
theorem Heap.get_put_same(h:Heap)(b:Nat)(o:AObj)(hb:b < h.nx):(h.put b o).get b=some o:=by rw[Heap.get_put _ _ _ _ hb,if_pos rfl]
theorem Heap.get_put_other(h:Heap)(b c:Nat)(o:AObj)(hb:b < h.nx)(hc:c≠b):(h.put b o).get c=h.get c:=by rw[Heap.get_put _ _ _ _ hb,if_neg hc]
theorem Heap.put_alloc_new(h:Heap)(o o':AObj)(hw:h.wm≤h.nx):(h.alloc o).put h.nx o'=h.alloc o':=by
 unfold Heap.put Heap.alloc
 simp only[T.put_put]
 congr 1
 rw[wm_min];omega
section
variable {env:Env} {h:Heap}
/-- Is a type's value one cell? -/
def isCell(env:Env)(t:TypeId):Bool:=match env.und t,env.size t with|some d,some _=>!isAggD d|_,_=>false
def isAggOf(env:Env)(t:TypeId)(n:Nat):Bool:=match env.und t,env.size t with|some d,some k=>isAggD d && Nat.beq k n|_,_=>false
theorem ld_cell{t:TypeId}{b o:Nat}{el:TypeId}{cs:List Value}{es:Nat}{ro:Bool}{v:Value}(hg:h.get b=some (.row el cs es ro))(hc:isCell env t=true)
  (hv:(cs.drop o).head? =some v):loadV env h t ⟨b,o,none⟩=some v:=by
 unfold isCell at hc
 unfold loadV
 rw[hg]
 cases hu:env.und t with
 |none=>rw[hu] at hc;simp at hc
 |some d=>
  cases hs:env.size t with
  |none=>rw[hu,hs] at hc;simp at hc
  |some n=>
   rw[hu,hs] at hc
   have hd:isAggD d=false:=by simpa using hc
   simp only[hd,Bool.false_eq_true,if_false,hv]
theorem ld_agg{t:TypeId}{b o:Nat}{el:TypeId}{cs:List Value}{es:Nat}{ro:Bool}{l:List Value}(n:Nat)(hg:h.get b=some (.row el cs es ro))(hc:isAggOf env t n=true)
  (hv:(cs.drop o).take n=l) (hl:l.length=n):loadV env h t ⟨b,o,none⟩=some (.agg ⟨l⟩):=by
 have hb:Nat.beq l.length n=true:=by rw[hl];exact Nat.beq_refl n
 unfold isAggOf at hc
 unfold loadV
 rw[hg]
 cases hu:env.und t with
 |none=>rw[hu] at hc;simp at hc
 |some d=>
  cases hs:env.size t with
  |none=>rw[hu,hs] at hc;simp at hc
  |some k=>
   rw[hu,hs] at hc
   rw[Bool.and_eq_true] at hc
   have:=Nat.eq_of_beq_eq_true hc.2
   subst this
   simp only[hc.1,if_true,hv,hb]
theorem st_row{t:TypeId}{b o:Nat}{el:TypeId}{cs cs':List Value}{es:Nat}{v:Value}(n:Nat)(hg:h.get b=some (.row el cs es false))(hs:env.size t=some n)(hn:v.cells.size=n)
  (hv:setL cs o v.cells.toList=some cs'):stF (storeV env h t ⟨b,o,none⟩ v)=some (undef,h.put b (.row el cs' es false)):=by
 simp only[storeV,hs,hn,if_true,storeC,hg,hv,stF]
theorem wrap_i64{x:Int}(h1: -9223372036854775808≤x)(h2:x≤9223372036854775807):IntKind.i64.wrap x=x:=by
 simp[IntKind.wrap,IntKind.bits,IntKind.signed] at *
 omega
theorem add_i64{x:Int}(h1: -9223372036854775808≤x)(h2:x≤9223372036854775807):some (Value.int .i64 (IntKind.i64.wrap x))=some (.int .i64 x):=by rw[wrap_i64 h1 h2]
theorem idx_str{t:TypeId}{s:ByteArray}{i:Int}(hu:env.und t=some .string)(h1:0≤i)(h2:i < s.data.toList.length):indexA env t (.string s) (.int .i64 i)=some (.int .u8 (bAt s i:Int)):=by
 unfold indexA bAt
 rw[hu]
 simp only[if_pos h1]
 have hlt:i.toNat < s.data.toList.length:=by omega
 have:(s.data.toList.drop i.toNat).head? =some (s.data.toList[i.toNat]):=by
  rw[List.head?_drop];exact List.getElem?_eq_getElem hlt
 rw[this]
 simp only[List.headD_eq_head?_getD,this,Option.getD_some]
theorem finish_pure{v:Value}{g:Heap}(h1:h.nx≤g.wm)(h2:lowV h.nx 5 v=true):finish h v g=(v,h):=by
 unfold finish
 have:Nat.ble h.nx g.wm=true:=Nat.ble_eq_true_of_le h1
 rw[this,h2];rfl
end
end Go.PanE
namespace Go.PanE
open Go.Proofs
/-- internal/bytealg.IndexByteString. -/
def extIndexByte:Ext where
 run args h:=match args with
  |[.string s,.int .u8 c]=>some (.int .i64 (firstIdx s c.toNat.toUInt8),h)
  |_=>none
 keep args h v h' e:=by
  split at e
  ·simp only[Option.some.injEq,Prod.mk.injEq] at e
   rw[← e.2];exact Keep.refl _
  ·simp at e
def extT(f:FuncId):Option Ext:=if f=98 then some extIndexByte else none
theorem LRel.two{μ:Loc}{a b:Value}{l:List Value}(h:LRel μ [a,b] l):∃ a' b',l=[a',b']∧VRel μ a a'∧VRel μ b b':=by
 obtain⟨h1,h2⟩:=h
 match l,h1 with
 |[x,y],_=>exact⟨x,y,rfl,h2 0 a x rfl rfl,h2 1 b y rfl rfl⟩
theorem extT_ok:ExtOK Tryz.prog extT:=by
 intro f e he args h v h' hr μ w args' R hl
 unfold extT at he
 split at he
 ·rename_i hf
  subst hf
  simp only[Option.some.injEq] at he;subst he
  simp only[extIndexByte] at hr
  split at hr
  ·rename_i s c
   simp only[Option.some.injEq,Prod.mk.injEq] at hr
   obtain⟨rfl,rfl⟩:=hr
   obtain⟨a',b',rfl,ra,rb⟩:=hl.two
   cases ra;cases rb
   refine⟨w,μ,_,?_,Go1.refl R,.int _ _⟩
   rw[@run_callFunc_extern Tryz.prog 98 _ Extern.BytealgIndexByte.indexByte Tryz.func98 (by kernel_rfl) (by kernel_rfl) (by kernel_rfl) (by kernel_rfl)]
   rw[show(⟨[Value.string s,Value.int .u8 c]⟩:Array Value)= #[.string s,.int .u8 c] from rfl,run_indexByte_string]
   rfl
  ·simp at hr
 ·simp at he
/-- Two cells of a sheet, as keys. -/
def keyT(t:TypeId)(v:Value):Bool:=Nat.beq t 29 && match v with
 | .agg ⟨[.int .i64 a,.int .i64 b]⟩=>(decide (a=1) && decide (b=1)) || (decide (a=2) && decide (b=2))
 |_=>false
theorem keyT_ok:∀ t v,keyT t v=true→WideMaps.KeyLaw Tryz.prog t∧∃ l,keyOf Tryz.prog t v=some l:=by
 intro t v e
 unfold keyT at e
 rw[Bool.and_eq_true] at e
 have:=Nat.eq_of_beq_eq_true e.1
 subst this
 refine⟨deep_law_laid (by kernel_rfl) (m:=3) (by omega) (of_decide_eq_true (by kernel_rfl)) (by kernel_rfl) (by kernel_rfl),?_⟩
 have e2:=e.2
 split at e2
 ·rename_i a b
  simp only[Bool.or_eq_true,Bool.and_eq_true,decide_eq_true_eq] at e2
  rcases e2 with⟨rfl,rfl⟩|⟨rfl,rfl⟩
  ·exact⟨_,(show keyOf Tryz.prog 29 (.agg #[.int .i64 1,.int .i64 1])=some ((keyOf Tryz.prog 29 (.agg #[.int .i64 1,.int .i64 1])).getD (.bool false)) by kernel_rfl)⟩
  ·exact⟨_,(show keyOf Tryz.prog 29 (.agg #[.int .i64 2,.int .i64 2])=some ((keyOf Tryz.prog 29 (.agg #[.int .i64 2,.int .i64 2])).getD (.bool false)) by kernel_rfl)⟩
 ·simp at e2
noncomputable def En:Env:=envOf Tryz.prog extT keyT
theorem En_ok:EnvOK Tryz.prog En:=envOf_ok Tryz.prog extT_ok keyT_ok
end Go.PanE
