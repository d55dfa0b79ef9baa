/-
 Part 7 of the proof of Rows.DumpLinesCardSaid. No conditions.
-/
import Derived.Test.YtihkphfmnnndfaaGreatDoorT06
import Derived.Orders
namespace Go.PanE
theorem zkz:∀ (d:Nat) (a b:Value),veq d a b=true→a=b:=by
 intro d
 induction d with
 |zero=>
  intro a b e
  unfold veq at e
  split at e <;>first
   |rfl
   |(exfalso;omega)
   |(simp at e;done)
   |(simp only[bA,decide_eq_true_eq,beq_iff_eq] at e;simp_all;done)
   |(simp only[decide_eq_true_eq] at e;congr 1;apply ByteArray.ext;apply Array.ext';exact e)
 |succ d ih=>
  have ihs:∀ l m,veq.veqs d l m=true→l=m:=by
   intro l
   induction l with
   |nil=>intro m e;cases m <;>simp[veq.veqs] at e ⊢
   |cons x l ihl=>
    intro m e
    cases m with
    |nil=>simp[veq.veqs] at e
    |cons y m=>
     simp only[veq.veqs,bA] at e
     rw[ih x y e.1,ihl m e.2]
  intro a b e
  unfold veq at e
  split at e <;>first
   |rfl
   |(simp at e;done)
   |(simp only[bA,decide_eq_true_eq,beq_iff_eq] at e;simp_all;done)
   |(simp only[decide_eq_true_eq] at e;congr 1;apply ByteArray.ext;apply Array.ext';exact e)
   |(simp only[bA,decide_eq_true_eq] at e;rename_i h1;simp only[Nat.succ.injEq] at h1;subst h1;rw[e.1,ih _ _ e.2])
   |(rename_i h1;simp only[Nat.succ.injEq] at h1;subst h1;congr 1;apply Array.ext';exact ihs _ _ e)
section
variable {env:Env} {call:wQ} {h h':Heap} {tm tm':T Value}
theorem zaG:∀ (l:List Operand),(∀ x,x∈l→rd tm x=rd tm' x)→rds tm l=rds tm' l:=by
 intro l
 induction l with
 |nil=>intro _;rfl
 |cons x l ih=>
  intro hl
  simp only[rds,hl x (by simp),ih (fun y hy=>hl y (by simp[hy]))]
theorem zbN:∀ (l:List (Nat×Operand)),(∀ x,x∈l.map (·.2)→rd tm x=rd tm' x)→vp tm l=vp tm' l:=by
 intro l
 induction l with
 |nil=>intro _;rfl
 |cons p l ih=>
  obtain⟨i,x⟩:=p
  intro hl
  simp only[vp,hl x (by simp),ih (fun y hy=>hl y (by simp only[List.map_cons,List.mem_cons];exact .inr hy))]
theorem zcb(o:Option Operand)(hl:∀ x,o=some x→rd tm x=rd tm' x):o.map (rd tm)=o.map (rd tm'):=by
 cases o with
 |none=>rfl
 |some x=>simp[hl x rfl]
theorem zgD{op:Op}(hl:∀ x,x∈op.operands.toList→rd tm x=rd tm' x):opQ env h tm op=opQ env h tm' op:=by
 cases op with
 |call c=>
  obtain⟨cal,az,ts⟩:=c
  have ha:rds tm az.toList=rds tm' az.toList:=zaG _ (fun x hx=>hl x (by simp[Op.operands,Call.operands];right;simpa using hx))
  cases cal with
  |builtin b=>cases b <;>simp only[opQ,ha]
  |value f=>rfl
  |invoke r m=>rfl
 |slice t x lo hi mx=>
  have h1:=hl x (by simp[Op.operands])
  have h2:=zcb lo (tm:=tm) (tm':=tm') (fun y hy=>hl y (by subst hy;simp[Op.operands]))
  have h3:=zcb hi (tm:=tm) (tm':=tm') (fun y hy=>hl y (by subst hy;simp[Op.operands]))
  have h4:=zcb mx (tm:=tm) (tm':=tm') (fun y hy=>hl y (by subst hy;simp[Op.operands]))
  simp only[opQ,h1,h2,h3,h4]
 |build t ps=>
  have:=zbN (tm:=tm) (tm':=tm') ps.toList (fun x hx=>hl x (by simpa[Op.operands] using hx))
  simp only[opQ,this]
 |makeFunc fn fi ca=>
  have h1:=zaG (tm:=tm) (tm':=tm') fi.toList (fun x hx=>hl x (by simp[Op.operands];left;simpa using hx))
  have h2:=zaG (tm:=tm) (tm':=tm') ca.toList (fun x hx=>hl x (by simp[Op.operands];right;simpa using hx))
  simp only[opQ,h1,h2]
 |pick c a b=>simp only[opQ,hl c (by simp[Op.operands]),hl a (by simp[Op.operands]),hl b (by simp[Op.operands])]
 |binOp o t x y u=>simp only[opQ,hl x (by simp[Op.operands]),hl y (by simp[Op.operands])]
 |indexAddr t x i=>simp only[opQ,hl x (by simp[Op.operands]),hl i (by simp[Op.operands])]
 |index t x i=>simp only[opQ,hl x (by simp[Op.operands]),hl i (by simp[Op.operands])]
 |lookup t x i ok=>simp only[opQ,hl x (by simp[Op.operands]),hl i (by simp[Op.operands])]
 |move x=>simp only[opQ,hl x (by simp[Op.operands])]
 |assign x=>simp only[opQ,hl x (by simp[Op.operands])]
 |load t x=>simp only[opQ,hl x (by simp[Op.operands])]
 |unOp o t x=>simp only[opQ,hl x (by simp[Op.operands])]
 |convert s d x=>simp only[opQ,hl x (by simp[Op.operands])]
 |makeInterface t x=>simp only[opQ,hl x (by simp[Op.operands])]
 |fieldAddr t x f=>simp only[opQ,hl x (by simp[Op.operands])]
 |field t x f=>simp only[opQ,hl x (by simp[Op.operands])]
 |extract x i=>simp only[opQ,hl x (by simp[Op.operands])]
 |nilCheck x=>simp only[opQ,hl x (by simp[Op.operands])]
 |_=>rfl
theorem znJ{op:Op}(hu:jI op=false):opQ env h tm op=opQ env h' tm op:=by
 cases op <;>first|rfl|(simp[jI] at hu;done)
theorem zlu{op:Op}(hl:∀ x,x∈op.operands.toList→rd tm x=rd tm' x):opA env tm op=opA env tm' op:=by
 cases op with
 |box t x=>simp only[opA,hl x (by simp[Op.operands])]
 |buildSlice t n ps=>
  have:=zbN (tm:=tm) (tm':=tm') ps.toList (fun x hx=>hl x (by simpa[Op.operands] using hx))
  simp only[opA,this]
 |makeSlice t l c=>simp only[opA,hl l (by simp[Op.operands]),hl c (by simp[Op.operands])]
 |range t x=>simp only[opA,hl x (by simp[Op.operands])]
 |convert s d x=>simp only[opA,hl x (by simp[Op.operands])]
 |makeMap t r=>cases r <;>rfl
 |_=>rfl
theorem zlt{op:Op}(hl:∀ x,x∈op.operands.toList→rd tm x=rd tm' x):opE env call h tm op=opE env call h tm' op:=by
 cases op with
 |store t a x=>simp only[opE,hl a (by simp[Op.operands]),hl x (by simp[Op.operands])]
 |mapUpdate t m k x=>simp only[opE,hl m (by simp[Op.operands]),hl k (by simp[Op.operands]),hl x (by simp[Op.operands])]
 |next it b=>cases b <;>simp only[opE,hl it (by simp[Op.operands])]
 |call c=>
  obtain⟨cal,az,ts⟩:=c
  have ha:rds tm az.toList=rds tm' az.toList:=zaG _ (fun x hx=>hl x (by simp[Op.operands,Call.operands];right;simpa using hx))
  cases cal with
  |builtin b=>cases b <;>simp only[opE,ha]
  |value f=>simp only[opE,ha,hl f (by simp[Op.operands,Call.operands])]
  |invoke r m=>rfl
 |_=>rfl
/-! Who stands ahead. -/
theorem zoy(recs:List Rec):∀ (es:List Edge) (s k:Nat),(es.foldl (fun s e=>if Region.binds .any e then s ||| 2 ^ e.on ||| (match recs[e.on]? with|some r=>r.anc|none=>0) else s) s).testBit k=true→
  s.testBit k=true∨∃ e,e∈es∧Region.binds .any e=true∧(e.on=k∨∃ r,recs[e.on]? =some r∧r.anc.testBit k=true):=by
 intro es
 induction es with
 |nil=>intro s k h;exact .inl h
 |cons e es ih=>
  intro s k h
  simp only[List.foldl_cons] at h
  rcases ih _ k h with h1|⟨e',he,hb,hr⟩
  ·by_cases hbe:Region.binds .any e=true
   ·rw[if_pos hbe,Nat.testBit_or,Nat.testBit_or,Bool.or_eq_true,Bool.or_eq_true] at h1
    rcases h1 with(h1|h1)|h1
    ·exact .inl h1
    ·rw[Nat.testBit_two_pow] at h1
     exact .inr ⟨e,by simp,hbe,.inl (by simpa using h1)⟩
    ·cases hr:recs[e.on]? with
     |none=>rw[hr] at h1;simp at h1
     |some r=>rw[hr] at h1;exact .inr ⟨e,by simp,hbe,.inr ⟨r,hr,h1⟩⟩
   ·rw[if_neg hbe] at h1;exact .inl h1
  ·exact .inr ⟨e',by simp[he],hb,hr⟩
theorem zfl{recs:List Rec}{es:List Edge}{k:Nat}(h:(wI recs es).testBit k=true):∃ e,e∈es∧Region.binds .any e=true∧(e.on=k∨∃ r,recs[e.on]? =some r∧r.anc.testBit k=true):=by
 rcases zoy recs es 0 k h with h|h
 ·simp at h
 ·exact h
/-! Births. -/
theorem zr4(mask born:Nat):∀ (l:List Rec) (k:Nat) (h:Heap),(wv mask born l k h).nx=h.nx:=by
 intro l
 induction l with
 |nil=>intro k h;rfl
 |cons r l ih=>
  intro k h
  simp only[wv]
  rw[ih]
  split <;>rfl
end
def qs(h:Heap)(b:Nat):List Eff→Heap×Nat
 |[]=>(h,b)
 |x::l=>qs x.post x.born l
theorem zea(h:Heap)(b:Nat):∀ (l:List Eff) (x:Eff),qs h b (l++[x])=(x.post,x.born):=by
 intro l
 induction l generalizing h b with
 |nil=>intro x;rfl
 |cons y l ih=>intro x;exact ih y.post y.born x
section
variable (env:Env) (call:wQ) (nt:Nat) (ops:List Oper)
def zf3(recs:List Rec)(cur:Heap)(born:Nat)(x:Eff):Prop:=
 ∃ r,recs[x.i]? =some r∧r.want=true∧2≤r.kd∧x.pre=wv r.anc born (recs.take x.i) 0 cur∧opE env call x.pre r.tm r.o.op=some (r.v,x.post)∧x.born=yK r.anc born
def qx(recs:List Rec):Heap→Nat→List Eff→Prop
 |_,_,[]=>True
 |cur,born,x::l=>zf3 env call recs cur born x∧qx recs x.post x.born l
theorem qx.snoc{recs:List Rec}:∀ (l:List Eff) (h:Heap) (b:Nat) (x:Eff),qx env call recs h b l→zf3 env call recs (qs h b l).1 (qs h b l).2 x→qx env call recs h b (l++[x]):=by
 intro l
 induction l with
 |nil=>intro h b x _ hx;exact⟨hx,trivial⟩
 |cons y l ih=>intro h b x hl hx;exact⟨hl.1,ih _ _ x hl.2 hx⟩
theorem vW{α:Type}(l:List α)(x:α)(i:Nat)(h:i≤l.length):(l++[x]).take i=l.take i:=by
 rw[List.take_append_of_le_length h]
theorem get_snoc{α:Type}{l:List α}{x:α}{i:Nat}{y:α}(h:(l++[x])[i]? =some y):(i < l.length∧l[i]? =some y)∨(i=l.length∧y=x):=by
 rcases Nat.lt_trichotomy i l.length with hl|hl|hl
 ·rw[List.getElem?_append_left hl] at h;exact .inl ⟨hl,h⟩
 ·subst hl;simp at h;exact .inr ⟨rfl,h.symm⟩
 ·rw[List.getElem?_eq_none (by simp;omega)] at h;simp at h
theorem yc{α:Type}{l:List α}{x:α}{i:Nat}{y:α}(h:l[i]? =some y):(l++[x])[i]? =some y:=by
 obtain⟨hi,_⟩:=List.getElem?_eq_some_iff.1 h
 rw[List.getElem?_append_left hi];exact h
theorem qx.mono{recs:List Rec}{r:Rec}:∀ (l:List Eff) (h:Heap) (b:Nat),(∀ x∈l,x.i < recs.length)→qx env call recs h b l→qx env call (recs++[r]) h b l:=by
 intro l
 induction l with
 |nil=>intro h b _ _;trivial
 |cons y l ih=>
  intro h b hx hl
  obtain⟨⟨q,h1,h2,h3,h4,h5,h6⟩,hr⟩:=hl
  refine⟨⟨q,yc h1,h2,h3,?_,h5,h6⟩,ih _ _ (fun x hm=>hx x (by simp[hm])) hr⟩
  rw[vW _ _ _ (Nat.le_of_lt (hx y (by simp)))]
  exact h4
structure WInv(base:Nat)(tm0:T Value)(h0:Heap)(k:Nat)(d:DS):Prop where
 len:d.recs.length=k
 op:∀ (i:Nat) (r:Rec),d.recs[i]? =some r→ops[i]? =some r.o
 anc:∀ (i:Nat) (r:Rec),d.recs[i]? =some r→r.anc=wI (d.recs.take i) r.o.after.toList
 tmd:∀ (t:Nat),(∀ (i:Nat) (r:Rec),d.recs[i]? =some r→r.o.dst=some t→rdT d.tm t=r.v)∧((∀ (i:Nat) (r:Rec),d.recs[i]? =some r→r.o.dst≠some t)→rdT d.tm t=rdT tm0 t)
 tmr:∀ (i:Nat) (r:Rec),d.recs[i]? =some r→∀ (t:Nat),(∀ (j:Nat) (q:Rec),j < i→d.recs[j]? =some q→q.o.dst=some t→rdT r.tm t=q.v)∧((∀ (j:Nat) (q:Rec),j < i→d.recs[j]? =some q→q.o.dst≠some t)→rdT r.tm t=rdT tm0 t)
 want:∀ (i:Nat) (r:Rec),d.recs[i]? =some r→r.want=wM ops r.tm r.o
 off:∀ (i:Nat) (r:Rec),d.recs[i]? =some r→r.want=false→r.v=undef
 q:∀ (i:Nat) (r:Rec),d.recs[i]? =some r→r.want=true→r.kd=0→∃ h:Heap,opQ env h r.tm r.o.op=some r.v
 a:∀ (i:Nat) (r:Rec),d.recs[i]? =some r→r.want=true→r.kd=1→base≤r.id∧r.id < d.na∧∃ mk,opA env r.tm r.o.op=some (mk,r.obj)∧r.v=mk r.id
 ainj:∀ (i j:Nat) (r q:Rec),d.recs[i]? =some r→d.recs[j]? =some q→r.isA=true→q.isA=true→r.id=q.id→i=j
 dst:∀ (i:Nat) (r:Rec) (t:Nat),d.recs[i]? =some r→r.o.dst=some t→t < nt
 e:∀ (i:Nat) (r:Rec),d.recs[i]? =some r→r.want=true→2≤r.kd→∃ x:Eff,x∈d.traj∧x.i=i
 traj:qx env call d.recs h0 0 d.traj
 cur:qs h0 0 d.traj=(d.cur,d.born)
 tlt:∀ x:Eff,x∈d.traj→x.i < k
 na:base≤d.na
theorem znv{nt:Nat}{dst:Option Tmp}{v:Value}{tm tm':T Value}(e:jB nt dst v tm=some tm'):(∀ t,dst=some t→rdT tm' t=v∧t < nt)∧∀ t,dst≠some t→rdT tm' t=rdT tm t:=by
 unfold jB at e
 split at e
 ·simp only[sJ] at e;subst e
  exact⟨fun t h=>by simp at h,fun _ _=>rfl⟩
 ·rename_i d
  split at e
  ·rename_i hd
   rw[Nat.blt_eq] at hd
   simp only[sJ] at e;subst e
   refine⟨fun t h=>?_,fun t h=>?_⟩
   ·simp only[sJ] at h;subst h
    exact⟨by simp[rdT,T.get_put],hd⟩
   ·simp only[ne_eq,sJ] at h
    simp only[rdT,T.get_put]
    rw[if_neg (fun h2=>h h2.symm)]
  ·simp at e
theorem WInv.snoc{base:Nat}{tm0:T Value}{h0:Heap}{k:Nat}{d:DS}(W:WInv env call nt ops base tm0 h0 k d)(hD:∀ (i j:Nat) (o q:Oper) (t:Nat),ops[i]? =some o→ops[j]? =some q→o.dst=some t→q.dst=some t→i=j)
  {r:Rec} {tm':T Value} {cur:Heap} {born na:Nat} {tr:List Eff} (ho:ops[k]? =some r.o) (hanc:r.anc=wI d.recs r.o.after.toList) (htm:r.tm=d.tm) (hput:jB nt r.o.dst r.v d.tm=some tm')
  (hw:r.want=wM ops d.tm r.o) (hoff:r.want=false→r.v=undef) (hq:r.want=true→r.kd=0→∃ h,opQ env h d.tm r.o.op=some r.v)
  (ha:r.want=true→r.kd=1→r.id=d.na∧na=d.na+1∧∃ mk,opA env d.tm r.o.op=some (mk,r.obj)∧r.v=mk r.id) (hna:d.na≤na)
  (htr:(tr=[]∧(r.want=true→r.kd < 2)∧cur=d.cur∧born=d.born)∨∃ x,tr=[x]∧x.i=k∧zf3 env call (d.recs++[r]) d.cur d.born x∧cur=x.post∧born=x.born):
  WInv env call nt ops base tm0 h0 (k+1) ⟨d.recs++[r],tm',cur,born,d.traj++tr,na⟩:=by
 obtain⟨pd1,pd2⟩:=znv hput
 have hlen:=W.len
 have hnew:∀ (i:Nat) (q:Rec) (t:Nat),d.recs[i]? =some q→q.o.dst=some t→r.o.dst≠some t:=by
  intro i q t hi hqt hrt
  have h1:=W.op i q hi
  have:=hD i k q.o r.o t h1 ho hqt hrt
  obtain⟨hlt,_⟩:=List.getElem?_eq_some_iff.1 hi
  omega
 refine⟨by simp[hlen],?_,?_,?_,?_,?_,?_,?_,?_,?_,?_,?_,?_,?_,?_,nT W.na hna⟩
 ·intro i q hi
  rcases get_snoc hi with⟨_,h⟩|⟨h,rfl⟩
  ·exact W.op i q h
  ·rw[h,hlen];exact ho
 ·intro i q hi
  rcases get_snoc hi with⟨hl,h⟩|⟨h,rfl⟩
  ·rw[vW _ _ _ (by omega)];exact W.anc i q h
  ·rw[vW _ _ _ (by omega),h,List.take_length];exact hanc
 ·intro t
  refine⟨fun i q hi hqt=>?_,fun hno=>?_⟩
  ·rcases get_snoc hi with⟨_,h⟩|⟨h,rfl⟩
   ·show rdT tm' t=q.v
    rw[pd2 t (hnew i q t h hqt)]
    exact(W.tmd t).1 i q h hqt
   ·exact(pd1 t hqt).1
  ·show rdT tm' t=rdT tm0 t
   rw[pd2 t (hno d.recs.length r (by simp))]
   exact(W.tmd t).2 (fun i q hi=>hno i q (yc hi))
 ·intro i q hi t
  rcases get_snoc hi with⟨hl,h⟩|⟨h,rfl⟩
  ·refine⟨fun j p hj hp hpt=>?_,fun hno=>?_⟩
   ·rcases get_snoc hp with⟨_,h2⟩|⟨h2,_⟩
    ·exact(W.tmr i q h t).1 j p hj h2 hpt
    ·omega
   ·exact(W.tmr i q h t).2 (fun j p hj hp=>hno j p hj (yc hp))
  ·rw[htm]
   refine⟨fun j p hj hp hpt=>?_,fun hno=>?_⟩
   ·rcases get_snoc hp with⟨_,h2⟩|⟨h2,_⟩
    ·exact(W.tmd t).1 j p h2 hpt
    ·omega
   ·exact(W.tmd t).2 (fun j p hp=>hno j p (by obtain⟨hl,_⟩:=List.getElem?_eq_some_iff.1 hp;omega) (yc hp))
 ·intro i q hi
  rcases get_snoc hi with⟨_,h⟩|⟨h,rfl⟩
  ·exact W.want i q h
  ·rw[htm];exact hw
 ·intro i q hi
  rcases get_snoc hi with⟨_,h⟩|⟨h,rfl⟩
  ·exact W.off i q h
  ·exact hoff
 ·intro i q hi
  rcases get_snoc hi with⟨_,h⟩|⟨h,rfl⟩
  ·exact W.q i q h
  ·rw[htm];exact hq
 ·intro i q hi h1 h2
  rcases get_snoc hi with⟨_,h⟩|⟨h,rfl⟩
  ·obtain⟨a1,a2,a3⟩:=W.a i q h h1 h2
   exact⟨a1,nU a2 hna,a3⟩
  ·obtain⟨a1,a2,a3⟩:=ha h1 h2
   rw[htm]
   exact⟨by rw[a1];exact W.na,by simp only;omega,a3⟩
 ·intro i j q p hi hj hqa hpa hid
  rcases get_snoc hi with⟨h0,h⟩|⟨h,rfl⟩ <;>rcases get_snoc hj with⟨h0',h'⟩|⟨h',rfl⟩
  ·exact W.ainj i j q p h h' hqa hpa hid
  ·exfalso
   simp only[Rec.isA,bA] at hqa hpa
   have b1:=W.a i q h hqa.1 (nB_ hqa.2)
   have b2:=ha hpa.1 (nB_ hpa.2)
   omega
  ·exfalso
   simp only[Rec.isA,bA] at hqa hpa
   have b1:=W.a j p h' hpa.1 (nB_ hpa.2)
   have b2:=ha hqa.1 (nB_ hqa.2)
   omega
  ·omega
 ·intro i q t hi hqt
  rcases get_snoc hi with⟨_,h⟩|⟨h,rfl⟩
  ·exact W.dst i q t h hqt
  ·exact(pd1 t hqt).2
 ·intro i q hi h1 h2
  rcases get_snoc hi with⟨_,h⟩|⟨h,rfl⟩
  ·obtain⟨x,hx,hxi⟩:=W.e i q h h1 h2
   exact⟨x,by simp[hx],hxi⟩
  ·rcases htr with⟨_,h3,_⟩|⟨x,rfl,hx,_⟩
   ·have:=h3 h1;omega
   ·exact⟨x,by simp,by omega⟩
 ·have hm:=qx.mono env call (r:=r) d.traj h0 0 (fun x hx=>by rw[hlen];exact W.tlt x hx) W.traj
  rcases htr with⟨rfl,_⟩|⟨x,rfl,hx,he,_⟩
  ·simpa using hm
  ·exact qx.snoc env call d.traj h0 0 x hm (by rw[W.cur];exact he)
 ·rcases htr with⟨rfl,_,h3,h4⟩|⟨x,rfl,_,_,h3,h4⟩
  ·simp[W.cur,h3,h4]
  ·rw[zea];simp[h3,h4]
 ·intro x hx
  rcases htr with⟨rfl,_⟩|⟨y,rfl,hy,_⟩
  ·simp at hx;have:=W.tlt x hx;omega
  ·simp at hx
   rcases hx with hx|rfl
   ·have:=W.tlt x hx;omega
   ·omega
theorem zkx{base:Nat}{tm0:T Value}{h0:Heap}{k:Nat}{o:Oper}{d d':DS}(W:WInv env call nt ops base tm0 h0 k d)(hD:∀ (i j:Nat) (o q:Oper) (t:Nat),ops[i]? =some o→ops[j]? =some q→o.dst=some t→q.dst=some t→i=j)
  (ho:ops[k]? =some o) (e:zae env call nt ops k o d=some d'):WInv env call nt ops base tm0 h0 (k+1) d':=by
 unfold zae at e
 simp only at e
 split at e
 ·rename_i hw
  split at e
  ·rename_i hk
   split at e
   ·rename_i v hv
    split at e
    ·rename_i tm hp
     simp only[sJ] at e;subst e
     have:=WInv.snoc env call nt ops W (r:=⟨o,wI d.recs o.after.toList,true,0,v,0,.map [],d.tm⟩) (tr:=[]) (cur:=d.cur) (born:=d.born) (na:=d.na) hD ho rfl rfl hp hw.symm (fun h=>by simp at h) (fun _ _=>⟨_,hv⟩) (fun _ h=>by simp at h) (nL_ _) (.inl ⟨rfl,fun _=>by simp,rfl,rfl⟩)
     simpa using this
    ·simp at e
   ·simp at e
  ·rename_i hk
   split at e
   ·rename_i mk obj hv
    split at e
    ·rename_i tm hp
     simp only[sJ] at e;subst e
     have:=WInv.snoc env call nt ops W (r:=⟨o,wI d.recs o.after.toList,true,1,mk d.na,d.na,obj,d.tm⟩) (tr:=[]) (cur:=d.cur) (born:=d.born) (na:=d.na+1) hD ho rfl rfl hp hw.symm (fun h=>by simp at h) (fun _ h=>by simp at h) (fun _ _=>⟨rfl,rfl,mk,hv,rfl⟩) (Nat.le_succ _) (.inl ⟨rfl,fun _=>by simp,rfl,rfl⟩)
     simpa using this
    ·simp at e
   ·simp at e
  ·split at e
   ·rename_i v post hv
    split at e
    ·rename_i tm hp
     simp only[sJ] at e;subst e
     refine WInv.snoc env call nt ops W (r:=⟨o,wI d.recs o.after.toList,true,2,v,0,.map [],d.tm⟩) hD ho rfl rfl hp hw.symm (fun h=>by simp at h) (fun _ h=>by simp at h) (fun _ h=>by simp at h) (nL_ _) (.inr ⟨_,rfl,rfl,?_,rfl,rfl⟩)
     refine⟨⟨o,wI d.recs o.after.toList,true,2,v,0,.map [],d.tm⟩,by show(d.recs++[_])[k]? =_;rw[← W.len];simp,rfl,nL_ _,?_,hv,rfl⟩
     simp only
     rw[vW _ _ _ (by rw[W.len];exact nL_ _),← W.len,List.take_length]
    ·simp at e
   ·simp at e
 ·rename_i hw
  split at e
  ·rename_i tm hp
   simp only[sJ] at e;subst e
   have:=WInv.snoc env call nt ops W (r:=⟨o,wI d.recs o.after.toList,false,qH env o.op,undef,0,.map [],d.tm⟩) (tr:=[]) (cur:=d.cur) (born:=d.born) (na:=d.na) hD ho rfl rfl hp (by simpa using hw) (fun _=>rfl) (fun h=>by simp at h) (fun h=>by simp at h) (nL_ _) (.inl ⟨rfl,fun h=>by simp at h,rfl,rfl⟩)
   simpa using this
  ·simp at e
theorem zmB{base:Nat}{tm0:T Value}{h0:Heap}(hD:∀ (i j:Nat) (o q:Oper) (t:Nat),ops[i]? =some o→ops[j]? =some q→o.dst=some t→q.dst=some t→i=j):∀ (l:List Oper) (k:Nat) (d d':DS),ops.drop k=l→
  WInv env call nt ops base tm0 h0 k d→qL env call nt ops l k d=some d'→WInv env call nt ops base tm0 h0 (k+l.length) d':=by
 intro l
 induction l with
 |nil=>intro k d d' _ W e;simp only[qL,sJ] at e;subst e;exact W
 |cons o l ih=>
  intro k d d' hd W e
  simp only[qL] at e
  split at e
  ·rename_i d1 h1
   have ho:ops[k]? =some o:=by
    have:=congrArg (fun l=>l[0]?) hd
    simpa using this
   have hd':ops.drop (k+1)=l:=by
    have:=congrArg List.tail hd
    simpa using this
   have:=ih (k+1) d1 d' hd' (zkx env call nt ops W hD ho h1) e
   simp only[lC]
   rw[show k+(l.length+1)=k+1+l.length by omega]
   exact this
  ·simp at e
theorem ziX(base:Nat)(tm0:T Value)(h0:Heap):WInv env call nt ops base tm0 h0 0 ⟨[],tm0,h0,0,[],base⟩:=by
 refine⟨rfl,?_,?_,fun t=>⟨?_,fun _=>rfl⟩,?_,?_,?_,?_,?_,?_,?_,?_,trivial,rfl,?_,nL_ _⟩ <;>simp
end
theorem wY:∀ (n:Nat) (h:Heap),(zd n h).nx=h.nx+n∧(zd n h).wm=h.wm∧∀ b,(zd n h).get b=if b < h.nx then h.get b else none:=by
 intro n
 induction n with
 |zero=>
  intro h
  refine⟨rfl,rfl,fun b=>?_⟩
  show h.get b=_
  by_cases hb:b < h.nx
  ·rw[if_pos hb]
  ·rw[if_neg hb,wo,if_neg hb]
 |succ n ih=>
  intro h
  obtain⟨h1,h2,h3⟩:=ih {t:=h.t.drop h.nx,nx:=h.nx+1,wm:=h.wm}
  refine⟨?_,h2,fun b=>?_⟩
  ·show(zd n _).nx=_
   rw[h1];simp only;omega
  ·show(zd n _).get b=_
   rw[h3,wo,wo]
   simp only[T.get_drop]
   by_cases hb:b < h.nx
   ·rw[if_pos (by omega),if_pos (by omega),if_neg (by omega),if_pos hb,if_pos hb]
   ·rw[if_neg hb]
    by_cases hb2:b < h.nx+1
    ·rw[if_pos hb2,if_pos hb2,if_pos (by omega)]
    ·rw[if_neg hb2]
section
variable {μ0 μ:Loc} {s m:Heap} {w0 w:World}
theorem zjX(R:Rep μ s w)(n:Nat):Go1 μ s w μ (zd n s) w:=by
 obtain⟨h1,h2,h3⟩:=wY n s
 have g:∀ b o,(zd n s).get b=some o→s.get b=some o:=by
  intro b o hb
  rw[h3] at hb
  split at hb
  ·exact hb
  ·simp at hb
 refine⟨μ.le_refl,⟨fun b o hb=>R.live b o (g b o hb),fun b b' o o' p p' hb hb'=>R.inj b b' o o' p p' (g _ _ hb) (g _ _ hb'),fun b hb=>R.fh b (by omega),R.bound,R.glob⟩,nL_ _,?_,fun _ _ _=>rfl,rfl,rfl,rfl,by omega,fun _ _=>rfl⟩
 rintro k ⟨b,o,p,hb,hp,rfl⟩ _
 exact⟨b,o,p,g b o hb,hp,rfl⟩
theorem go_bind(G:Go1 μ0 s w0 μ m w){id:Nat}{p:Place}{obj:AObj}(hid:id < m.nx)(hno:m.get id=none)(hp:μ id=some p)(ho:jK μ w p obj)(hge:w0.heap.size≤p.pb)(hown:¬ Own μ m p.pb):
  Go1 μ0 s w0 μ (m.put id obj) w∧∀ k,Own μ (m.put id obj) k→Own μ m k∨k=p.pb:=by
 have R:=G.rep
 have g:∀ b x,(m.put id obj).get b=some x→(b=id∧x=obj)∨(b≠id∧m.get b=some x):=by
  intro b x hb
  rw[Heap.get_put _ _ _ _ hid] at hb
  split at hb
  ·rename_i e;simp only[sJ] at hb;exact .inl ⟨e,hb.symm⟩
  ·rename_i e;exact .inr ⟨e,hb⟩
 have own:∀ k,Own μ (m.put id obj) k→Own μ m k∨k=p.pb:=by
  rintro k ⟨b,x,q,hb,hq,rfl⟩
  rcases g b x hb with⟨rfl,_⟩|⟨_,h⟩
  ·rw[hp] at hq;simp only[sJ] at hq;subst hq;exact .inr rfl
  ·exact .inl ⟨b,x,q,h,hq,rfl⟩
 refine⟨⟨G.ext,⟨?_,?_,R.fh,R.bound,R.glob⟩,G.size,?_,G.frame,G.os,G.out,G.tape,G.nx,G.low⟩,own⟩
 ·intro b x hb
  rcases g b x hb with⟨rfl,rfl⟩|⟨_,h⟩
  ·exact⟨p,hp,ho⟩
  ·exact R.live b x h
 ·intro b b' x x' q q' hb hb' hq hq' hpb hy
  rcases g b x hb with⟨rfl,_⟩|⟨e,h⟩ <;>rcases g b' x' hb' with⟨rfl,_⟩|⟨e',h'⟩
  ·rfl
  ·exfalso
   rw[hp] at hq;simp only[sJ] at hq;subst hq
   exact hown ⟨b',x',q',h',hq',hpb.symm⟩
  ·exfalso
   rw[hp] at hq';simp only[sJ] at hq';subst hq'
   exact hown ⟨b,x,q,h,hq,hpb⟩
  ·exact R.inj b b' x x' q q' h h' hq hq' hpb hy
 ·intro k hk hlt
  rcases own k hk with h|h
  ·exact G.own k h hlt
  ·omega
theorem zrv(G:Go1 μ0 s w0 μ m w){id:Nat}{p:Place}{obj:AObj}{mk:Nat→Value}{v':Value}{u:World}(N:NewObj μ w u p obj mk v')(h1:s.nx≤id)(h2:id < m.nx)(hno:m.get id=none)(hp:μ id=none):
  Go1 μ0 s w0 (μ.upd id p) m u∧∀ k,Own (μ.upd id p) m k↔Own μ m k:=by
 have R:=G.rep
 have hle:μ.le (μ.upd id p):=jF hp
 have hne:∀ b x,m.get b=some x→b≠id:=fun b x hb e=>by subst e;rw[hno] at hb;simp at hb
 have own:∀ k,Own (μ.upd id p) m k↔Own μ m k:=by
  intro k
  constructor
  ·rintro⟨b,x,q,hb,hq,rfl⟩
   rw[zq _ _ _ _ (hne b x hb)] at hq
   exact⟨b,x,q,hb,hq,rfl⟩
  ·rintro⟨b,x,q,hb,hq,rfl⟩
   exact⟨b,x,q,hb,by rw[zq _ _ _ _ (hne b x hb)];exact hq,rfl⟩
 refine⟨⟨Loc.le_trans G.ext hle,⟨?_,?_,?_,?_,G.rep.glob.mono hle⟩,by have:=G.size;rw[N.size];omega,?_,?_,N.os.trans G.os,N.out.trans G.out,N.tape.trans G.tape,G.nx,?_⟩,own⟩
 ·intro b x hb
  obtain⟨q,hq,ho⟩:=R.live b x hb
  exact⟨q,hle _ _ hq,(ho.mono hle).world (N.old _ (R.bound _ _ hq))⟩
 ·intro b b' x x' q q' hb hb' hq hq'
  rw[zq _ _ _ _ (hne b x hb)] at hq
  rw[zq _ _ _ _ (hne b' x' hb')] at hq'
  exact R.inj b b' x x' q q' hb hb' hq hq'
 ·intro b hb
  rw[zq _ _ _ _ (by omega)]
  exact R.fh b hb
 ·intro b q hq
  by_cases e:b=id
  ·rw[e,zC] at hq;simp only[sJ] at hq;subst hq
   rw[N.pb,N.size];omega
  ·rw[zq _ _ _ _ e] at hq
   have:=R.bound b q hq
   rw[N.size];omega
 ·intro k hk hlt
  exact G.own k ((own k).1 hk) hlt
 ·intro k hk ho
  rw[N.old k (nU hk G.size)]
  exact G.frame k hk ho
 ·intro b hb
  rw[zq _ _ _ _ (by omega)]
  exact G.low b hb
structure PendOK(μ:Loc)(w w0:World)(r:Rec)(p:Place):Prop where
 at_:μ r.id=some p
 rel:∀ ν,μ.le ν→jK ν w p r.obj
 lt:p.pb < w.heap.size
 ge:w0.heap.size≤p.pb
theorem zr3(mask born:Nat):∀ (l:List Rec) (k:Nat) (m:Heap),Go1 μ0 s w0 μ m w→
  (∀ (j:Nat) (r:Rec),l[j]? =some r→r.isA=true→mask.testBit (k+j)=true→born.testBit (k+j)=false→∃ p,PendOK μ w w0 r p∧m.get r.id=none∧r.id < m.nx∧¬ Own μ m p.pb)→
  (∀ (j j':Nat) (r r':Rec),l[j]? =some r→l[j']? =some r'→j≠j'→r.isA=true→r'.isA=true→mask.testBit (k+j)=true→born.testBit (k+j)=false→mask.testBit (k+j')=true→born.testBit (k+j')=false→
   r.id≠r'.id∧∀ p p',μ r.id=some p→μ r'.id=some p'→p.pb≠p'.pb)→
  Go1 μ0 s w0 μ (wv mask born l k m) w∧
   (∀ kk,Own μ (wv mask born l k m) kk→Own μ m kk∨∃ (j:Nat) (r:Rec) (p:Place),l[j]? =some r∧r.isA=true∧mask.testBit (k+j)=true∧born.testBit (k+j)=false∧μ r.id=some p∧kk=p.pb)∧
   (∀ b,m.get b=none→(∀ (j:Nat) (r:Rec),l[j]? =some r→r.isA=true→mask.testBit (k+j)=true→born.testBit (k+j)=false→r.id≠b)→(wv mask born l k m).get b=none):=by
 intro l
 induction l with
 |nil=>intro k m G _ _;exact⟨G,fun kk h=>.inl h,fun b h _=>h⟩
 |cons r l ih=>
  intro k m G hA hD
  simp only[wv]
  have hA':∀ (m':Heap),(∀ (j:Nat) (q:Rec),l[j]? =some q→q.isA=true→mask.testBit (k+1+j)=true→born.testBit (k+1+j)=false→∀ p,PendOK μ w w0 q p→m.get q.id=none→q.id < m.nx→¬ Own μ m p.pb→m'.get q.id=none∧q.id < m'.nx∧¬ Own μ m' p.pb)→
    ∀ (j:Nat) (q:Rec),l[j]? =some q→q.isA=true→mask.testBit (k+1+j)=true→born.testBit (k+1+j)=false→∃ p,PendOK μ w w0 q p∧m'.get q.id=none∧q.id < m'.nx∧¬ Own μ m' p.pb:=by
   intro m' hm' j q hj h1 h2 h3
   obtain⟨p,a1,a2,a3,a4⟩:=hA (j+1) q (by simpa using hj) h1 (by rw[show k+(j+1)=k+1+j by omega];exact h2) (by rw[show k+(j+1)=k+1+j by omega];exact h3)
   obtain⟨b1,b2,b3⟩:=hm' j q hj h1 h2 h3 p a1 a2 a3 a4
   exact⟨p,a1,b1,b2,b3⟩
  have hD':∀ (j j':Nat) (q q':Rec),l[j]? =some q→l[j']? =some q'→j≠j'→q.isA=true→q'.isA=true→mask.testBit (k+1+j)=true→born.testBit (k+1+j)=false→mask.testBit (k+1+j')=true→born.testBit (k+1+j')=false→
    q.id≠q'.id∧∀ p p',μ q.id=some p→μ q'.id=some p'→p.pb≠p'.pb:=by
   intro j j' q q' hj hj' hne h1 h2 h3 h4 h5 h6
   exact hD (j+1) (j'+1) q q' (by simpa using hj) (by simpa using hj') (by omega) h1 h2 (by rw[show k+(j+1)=k+1+j by omega];exact h3) (by rw[show k+(j+1)=k+1+j by omega];exact h4)
    (by rw[show k+(j'+1)=k+1+j' by omega];exact h5) (by rw[show k+(j'+1)=k+1+j' by omega];exact h6)
  split
  ·rename_i hc
   simp only[bA,jc,Bool.not_eq_true'] at hc
   obtain⟨⟨hra,hm⟩,hb⟩:=hc
   obtain⟨p,pk,hno,hid,hown⟩:=hA 0 r rfl hra (by simpa using hm) (by simpa using hb)
   obtain⟨G2,own2⟩:=go_bind G hid hno pk.at_ (pk.rel μ μ.le_refl) pk.ge hown
   have hdis:∀ (j:Nat) (q:Rec),l[j]? =some q→q.isA=true→mask.testBit (k+1+j)=true→born.testBit (k+1+j)=false→r.id≠q.id∧∀ p p',μ r.id=some p→μ q.id=some p'→p.pb≠p'.pb:=by
    intro j q hj h1 h2 h3
    exact hD 0 (j+1) r q rfl (by simpa using hj) (by omega) hra h1 (by simpa using hm) (by simpa using hb) (by rw[show k+(j+1)=k+1+j by omega];exact h2) (by rw[show k+(j+1)=k+1+j by omega];exact h3)
   obtain⟨c1,c2,c3⟩:=ih (k+1) (m.put r.id r.obj) G2 (hA' _ (by
    intro j q hj h1 h2 h3 p' pk' a2 a3 a4
    obtain⟨d1,d2⟩:=hdis j q hj h1 h2 h3
    refine⟨by rw[Heap.get_put _ _ _ _ hid,if_neg (fun e=>d1 e.symm)];exact a2,a3,fun ho=>?_⟩
    rcases own2 _ ho with h|h
    ·exact a4 h
    ·exact d2 p p' pk.at_ pk'.at_ h.symm)) hD'
   refine⟨c1,fun kk hk=>?_,fun b hb1 hb2=>?_⟩
   ·rcases c2 kk hk with h|⟨j,q,p',e1,e2,e3,e4,e5,e6⟩
    ·rcases own2 kk h with h|h
     ·exact .inl h
     ·exact .inr ⟨0,r,p,rfl,hra,by simpa using hm,by simpa using hb,pk.at_,h⟩
    ·exact .inr ⟨j+1,q,p',by simpa using e1,e2,by rw[show k+(j+1)=k+1+j by omega];exact e3,by rw[show k+(j+1)=k+1+j by omega];exact e4,e5,e6⟩
   ·refine c3 b ?_ (fun j q hj h1 h2 h3=>hb2 (j+1) q (by simpa using hj) h1 (by rw[show k+(j+1)=k+1+j by omega];exact h2) (by rw[show k+(j+1)=k+1+j by omega];exact h3))
    have:=hb2 0 r rfl hra (by simpa using hm) (by simpa using hb)
    rw[Heap.get_put _ _ _ _ hid,if_neg (fun e=>this e.symm)]
    exact hb1
  ·obtain⟨c1,c2,c3⟩:=ih (k+1) m G (hA' m (fun j q _ _ _ _ p _ a2 a3 a4=>⟨a2,a3,a4⟩)) hD'
   refine⟨c1,fun kk hk=>?_,fun b hb1 hb2=>?_⟩
   ·rcases c2 kk hk with h|⟨j,q,p',e1,e2,e3,e4,e5,e6⟩
    ·exact .inl h
    ·exact .inr ⟨j+1,q,p',by simpa using e1,e2,by rw[show k+(j+1)=k+1+j by omega];exact e3,by rw[show k+(j+1)=k+1+j by omega];exact e4,e5,e6⟩
   ·exact c3 b hb1 (fun j q hj h1 h2 h3=>hb2 (j+1) q (by simpa using hj) h1 (by rw[show k+(j+1)=k+1+j by omega];exact h2) (by rw[show k+(j+1)=k+1+j by omega];exact h3))
end
end Go.PanE
