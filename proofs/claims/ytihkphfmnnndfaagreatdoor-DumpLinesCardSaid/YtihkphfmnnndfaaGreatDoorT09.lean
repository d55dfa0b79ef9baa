/-
 Part 9 of the proof of Rows.DumpLinesCardSaid. No conditions.
-/
import Derived.Test.YtihkphfmnnndfaaGreatDoorT08
namespace Go.PanE
theorem za2{α:Type}(l:List α)(p:α×Nat→Bool)(h:l.zipIdx.all p=true)(i:Nat)(r:α)(e:l[i]? =some r):p (r,i)=true:=by
 rw[List.all_eq_true] at h
 exact h (r,i) (List.mk_mem_zipIdx_iff_getElem?.2 e)
theorem zmC{env:Env}{call:wQ}{nt:Nat}{ops:List Oper}{k:Nat}{o:Oper}{d d':DS}(e:zae env call nt ops k o d=some d'):∃ r:Rec,r.o=o∧d'.recs=d.recs++[r]:=by
 unfold zae at e
 simp only at e
 split at e
 ·split at e
  ·split at e
   ·split at e
    ·simp only[sJ] at e;subst e;exact⟨_,rfl,rfl⟩
    ·simp at e
   ·simp at e
  ·split at e
   ·split at e
    ·simp only[sJ] at e;subst e;exact⟨_,rfl,rfl⟩
    ·simp at e
   ·simp at e
  ·split at e
   ·split at e
    ·simp only[sJ] at e;subst e;exact⟨_,rfl,rfl⟩
    ·simp at e
   ·simp at e
 ·split at e
  ·simp only[sJ] at e;subst e;exact⟨_,rfl,rfl⟩
  ·simp at e
theorem zp4{env:Env}{call:wQ}{nt:Nat}{ops:List Oper}:∀ (l:List Oper) (k:Nat) (d d':DS),qL env call nt ops l k d=some d'→d'.recs.map (·.o)=d.recs.map (·.o)++l:=by
 intro l
 induction l with
 |nil=>intro k d d' e;simp only[qL,sJ] at e;subst e;simp
 |cons o l ih=>
  intro k d d' e
  simp only[qL] at e
  split at e
  ·rename_i d1 h1
   obtain⟨r,hr,h2⟩:=zmC h1
   rw[ih _ _ _ e,h2,List.map_append,List.map_singleton,hr,List.append_assoc,List.singleton_append]
  ·simp at e
structure Drawn(env:Env)(call:wQ)(nt:Nat)(ops:Array Oper)(s:St)(d:DS):Prop where
 shown:Shown env call nt ops d.recs d.traj s.tm (zd (wt env ops.toList) s.h)
 tmd:∀ (t:Nat),(∀ (i:Nat) (r:Rec),d.recs[i]? =some r→r.o.dst=some t→rdT d.tm t=r.v)∧((∀ (i:Nat) (r:Rec),d.recs[i]? =some r→r.o.dst≠some t)→rdT d.tm t=rdT s.tm t)
 cur:qs (zd (wt env ops.toList) s.h) 0 d.traj=(d.cur,d.born)
 ids:∀ (i:Nat) (r:Rec),d.recs[i]? =some r→r.isA=true→s.h.nx≤r.id∧r.id < s.h.nx+wt env ops.toList
theorem zhc{env:Env}{call:wQ}{nt:Nat}{ops:Array Oper}{s s':St}(e:qB env call nt ops.toList s=some s'):
  ∃ d:DS,Drawn env call nt ops s d∧s'=⟨d.tm,wv (2 ^ ops.size - 1) d.born d.recs 0 d.cur⟩:=by
 unfold qB at e
 simp only at e
 split at e
 ·rename_i d hw
  cases hc:(jX ops.toList d.recs && ju d.recs d.traj && Nat.beq d.na (s.h.nx+wt env ops.toList)) with
  |false=>rw[hc] at e;simp at e
  |true=>
   rw[hc] at e
   simp only[cond_true] at e
   simp only[bA] at hc
   obtain⟨⟨hord,hchain⟩,hna⟩:=hc
   have hqt:zbk env d.recs d.traj (zd (wt env ops.toList) s.h)∧some (⟨d.tm,wv (2 ^ ops.toList.length - 1) d.born d.recs 0 d.cur⟩:St)=some s':=by
    cases hq:(d.recs.zipIdx.all fun(r,i)=>!r.want || !Nat.beq r.kd 0 || !jI r.o.op || quietOK env d.recs r i [] d.traj (zd (wt env ops.toList) s.h) 0) with
    |true=>
     rw[hq] at e
     refine⟨fun i r hr hw hk hu=>zns _ _ _ _ _ _ _ _ ?_,e⟩
     have:=za2 _ _ hq i r hr
     simp only[hw,hk,hu,Bool.or_eq_true] at this
     rcases this with h|h
     ·simp at h
     ·exact h
    |false=>
     rw[hq] at e
     simp only[cond_false] at e
     split at e
     ·rename_i hp;exact⟨hp,e⟩
     ·simp at e
   obtain⟨hqt,e⟩:=hqt
   simp only[sJ] at e
   have hna:=nB_ hna
   have hops:=zp4 _ _ _ _ hw
   simp only[List.map_nil,List.nil_append] at hops
   have hget:∀ (i:Nat) (r:Rec),d.recs[i]? =some r→ops.toList[i]? =some r.o:=by
    intro i r h
    rw[← hops,List.getElem?_map,h];rfl
   have hget2:∀ (i:Nat) (o:Oper),ops.toList[i]? =some o→∃ r:Rec,d.recs[i]? =some r∧r.o=o:=by
    intro i o h
    rw[← hops,List.getElem?_map] at h
    cases hr:d.recs[i]? with
    |none=>rw[hr] at h;simp at h
    |some r=>rw[hr] at h;exact⟨r,rfl,by simpa using h⟩
   unfold jX at hord
   have hord2:∀ (i:Nat) (r:Rec),d.recs[i]? =some r→(∀ ed,ed∈r.o.after.toList→Region.binds .any ed=true→ed.on < i)∧∀ (k:Nat) (q:Rec) (t:Nat),d.recs[k]? =some q→i≠k→q.o.dst=some t→r.o.dst≠some t∧(t∈qq ops.toList r.o→(k < i∧r.anc.testBit k=true)∨(i < k∧q.anc.testBit i=true)):=by
    intro i r hr
    have h:=za2 _ _ hord i r hr
    simp only[bA] at h
    refine⟨fun ed he hb=>?_,fun k q t hq hik hqt=>?_⟩
    ·have:=List.all_eq_true.1 h.1 ed he
     rw[hb] at this
     simpa using this
    ·have:=za2 _ _ h.2 k q hq
     simp only[hqt,Bool.or_eq_true,bA] at this
     rcases this with h1|⟨h1,h2⟩
     ·exact absurd (nB_ h1) hik
     ·refine⟨fun hh=>?_,fun ht=>?_⟩
      ·rw[hh] at h1;simp at h1
      ·rcases h2 with(h2|h2)|h2
       ·have:(qq ops.toList r.o).contains t=true:=List.contains_iff_mem.2 ht
        rw[this] at h2;simp at h2
       ·exact .inl ⟨by simpa using h2.1,h2.2⟩
       ·exact .inr ⟨by simpa using h2.1,h2.2⟩
   have hD:∀ (i j:Nat) (o q:Oper) (t:Nat),ops.toList[i]? =some o→ops.toList[j]? =some q→o.dst=some t→q.dst=some t→i=j:=by
    intro i j o q t hi hj ho hq
    obtain⟨r,hr,rfl⟩:=hget2 i o hi
    obtain⟨p,hp,rfl⟩:=hget2 j q hj
    by_cases hij:i=j
    ·exact hij
    ·exact absurd ho ((hord2 i r hr).2 j p t hp hij hq).1
   have W:=zmB env call nt ops.toList hD ops.toList 0 _ d (by simp) (ziX env call nt ops.toList s.h.nx s.tm (zd (wt env ops.toList) s.h)) hw
   refine⟨d,⟨⟨?_,?_,W.anc,W.tmr,W.want,W.off,W.q,fun i r hr hw hk=>(W.a i r hr hw hk).2.2,W.ainj,W.dst,W.e,W.traj,fun i r hr=>(hord2 i r hr).1,fun i k r q t hr hq hik hqt=>(hord2 i r hr).2 k q t hq hik hqt,hchain,?_⟩,W.tmd,W.cur,?_⟩,?_⟩
   ·rw[W.len];simp
   ·intro i r hr
    rw[← Array.getElem?_toList];exact hget i r hr
   ·exact hqt
   ·intro i r hr ha
    obtain⟨h1,h2⟩:=zlL ha
    have:=W.a i r hr h1 h2
    rw[hna] at this
    exact⟨this.1,this.2.1⟩
   ·rw[← e];simp
 ·simp at e
section
variable {P:Program} {env:Env} {call:wQ}
theorem zl6(E:EnvOK P env)(hm:P.follows .mixedOrders=true)(C:js P call)(CK:wa call){nt id:Nat}{ops:Array Oper}{s s':St}(e:qB env call nt ops.toList s=some s'){μ:Loc}{w:World}{tmps:Array Value}(R:Rep μ s.h w)(TR:wi μ s.tm tmps)(hnt:nt≤tmps.size)
  {Q:Exit→Act→World→Prop} (hQ:∀ u ν tmps',Go1 μ s.h w ν s'.h u→wi ν s'.tm tmps'→tmps'.size=tmps.size→Q .normal ⟨tmps',[]⟩ u):(Code.region id ops true).wp P Q ⟨tmps,[]⟩ w:=by
 obtain⟨d,D,rfl⟩:=zhc e
 refine wp_region_any hm ?_
 have R':Rep μ s.h {w with drawn:=w.drawn+1}:=⟨fun b o h=>by
  obtain⟨p,hp,ho⟩:=R.live b o h
  exact⟨p,hp,ho.world rfl⟩,R.inj,R.fh,R.bound,R.glob⟩
 have nodone:∀ i,¬ isDone (Array.replicate ops.size false) i:=by
  intro i h
  unfold isDone at h
  rw[Array.getElem?_replicate] at h
  split at h
  ·simp at h
  ·simp at h
 obtain⟨r1,r2,r3⟩:=wY (wt env ops.toList) s.h
 refine zqj (s:=s.h) (μ0:=μ) (w0:={w with drawn:=w.drawn+1}) (sz:=tmps.size) E C CK D.shown hnt D.tmd D.cur (fun u ν tmps' g t hsz=>hQ u ν tmps' ⟨g.ext,g.rep,g.size,g.own,g.frame,g.os,g.out,g.tape,g.nx,g.low⟩ t hsz)
  ops.size _ tmps _ μ s.tm [] d.traj (zd (wt env ops.toList) s.h) 0 (zrd _ _) ?_
 refine⟨by simp,fun i r _ h=>absurd h (nodone i),rfl,fun x hx=>by simp at hx,fun x _=>nodone x.i,rfl,zjX R' _,TR,fun t i r _ h=>absurd h (nodone i),fun _ _=>rfl,rfl,fun i r _ _ h=>absurd h (nodone i),fun i j r q p p' _ _ _ _ h=>absurd h (nodone i),?_,?_,?_,fun i h=>by simp at h⟩
 ·intro i r hr ha _
  exact R.fh _ (D.ids i r hr ha).1
 ·intro i r hr ha _
  have:=(D.ids i r hr ha).1
  rw[r3,if_neg (by omega)]
 ·intro i r hr ha
  rw[r1]
  exact D.ids i r hr ha
structure KeepB(base:Nat)(h g:Heap):Prop where
 nx:h.nx≤g.nx
 wm:g.wm≤h.wm
 get:∀ b,b < base→b < g.wm→g.get b=h.get b
 no:∀ b,b < base→h.get b=none→g.get b=none
theorem KeepB.trans{base:Nat}{h g f:Heap}(a:KeepB base h g)(b:KeepB base g f):KeepB base h f:=
 ⟨nT a.nx b.nx,nT b.wm a.wm,fun k h1 h2=>(b.get k h1 h2).trans (a.get k h1 (nU h2 b.wm)),fun k h1 e=>b.no k h1 (a.no k h1 e)⟩
theorem Keep.b{base:Nat}{h g:Heap}(hb:base≤h.nx)(k:Keep h g):KeepB base h g:=
 ⟨k.nx,k.wm,fun b h1 h2=>k.get b (by omega) h2,fun b h1 e=>k.no b (by omega) e⟩
theorem zfk{base:Nat}(mask born:Nat):∀ (l:List Rec) (k:Nat) (h:Heap),(∀ (j:Nat) (r:Rec),l[j]? =some r→r.isA=true→base≤r.id∧r.id < h.nx)→KeepB base h (wv mask born l k h):=by
 intro l
 induction l with
 |nil=>intro k h _;exact⟨nL_ _,nL_ _,fun _ _ _=>rfl,fun _ _ e=>e⟩
 |cons r l ih=>
  intro k h hids
  simp only[wv]
  split
  ·rename_i hc
   have ha:r.isA=true:=by
    rw[bA,bA] at hc;exact hc.1.1
   obtain⟨h1,h2⟩:=hids 0 r rfl ha
   refine KeepB.trans ?_ (ih (k+1) (h.put r.id r.obj) (fun j q hq hqa=>hids (j+1) q (by simpa using hq) hqa))
   refine⟨nL_ _,?_,fun b hb hw=>?_,fun b hb e=>?_⟩
   ·show(bif Nat.blt r.id h.wm then r.id else h.wm)≤h.wm
    rw[yj];omega
   ·rw[Heap.get_put _ _ _ _ h2,if_neg (by omega)]
   ·rw[Heap.get_put _ _ _ _ h2,if_neg (by omega)];exact e
  ·exact ih (k+1) h (fun j q hq hqa=>hids (j+1) q (by simpa using hq) hqa)
theorem zkE(CK:wa call){recs:List Rec}{base:Nat}{h0:Heap}(hb:base≤h0.nx)(hids:∀ (j:Nat) (r:Rec),recs[j]? =some r→r.isA=true→base≤r.id∧r.id < h0.nx):∀ (l:List Eff) (h:Heap) (b:Nat),h0.nx≤h.nx→qx env call recs h b l→KeepB base h (qs h b l).1:=by
 intro l
 induction l with
 |nil=>intro h b _ _;exact⟨nL_ _,nL_ _,fun _ _ _=>rfl,fun _ _ e=>e⟩
 |cons x l ih=>
  intro h b hn t
  obtain⟨⟨r,_,_,_,h1,h2,_⟩,t2⟩:=t
  have k1:KeepB base h x.pre:=by
   rw[h1]
   refine zfk r.anc b _ 0 h (fun j q hq ha=>?_)
   rw[List.getElem?_take] at hq
   by_cases hj:j < x.i
   ·rw[if_pos hj] at hq
    have:=hids j q hq ha
    exact⟨this.1,by omega⟩
   ·rw[if_neg hj] at hq;exact absurd hq (by simp)
  have hk:=zds CK h2
  have hpn:=k1.nx
  have hkn:=hk.nx
  exact(k1.trans (hk.b (by omega))).trans (ih x.post x.born (by omega) t2)
theorem zl7(CK:wa call){nt:Nat}{ops:List Oper}{s s':St}(e:qB env call nt ops s=some s'):Keep s.h s'.h:=by
 obtain⟨d,D,rfl⟩:=zhc (ops:=ops.toArray) (by simpa using e)
 obtain⟨r1,r2,r3⟩:=wY (wt env ops.toArray.toList) s.h
 have k1:=zkE CK (base:=s.h.nx) (h0:=zd (wt env ops.toArray.toList) s.h) (by rw[r1];omega) (fun j r hr ha=>by rw[r1];exact D.ids j r hr ha) d.traj _ 0 (nL_ _) D.shown.trj
 rw[D.cur] at k1
 have hn:=k1.nx
 rw[r1] at hn
 have k2:=zfk (base:=s.h.nx) (2 ^ ops.toArray.size - 1) d.born d.recs 0 d.cur (fun j r hr ha=>⟨(D.ids j r hr ha).1,by have:=(D.ids j r hr ha).2;have hn2:s.h.nx+wt env ops.toArray.toList≤d.cur.nx:=hn;omega⟩)
 have k:=k1.trans k2
 refine⟨by have:=k.nx;rw[r1] at this;simp only;omega,by have:=k.wm;rw[r2] at this;exact this,fun b h1 h2=>?_,fun b h1 h2=>?_⟩
 ·rw[k.get b h1 h2,r3,if_pos h1]
 ·exact k.no b h1 (by rw[r3,if_pos h1];exact h2)
end
end Go.PanE
namespace Go.PanE
noncomputable def drawn(env:Env):zel:=fun call nt ops s=>qB env call nt ops s
theorem zdt{P:Program}{env:Env}(E:EnvOK P env)(hm:P.follows .mixedOrders=true):zaw P (drawn env):=
 fun _ C CK _ _ _ _ _ e _ _ _ R TR hnt _ hQ=>zl6 E hm C CK e R TR hnt hQ
theorem zbF(env:Env):uX (drawn env):=fun _ CK _ _ _ _ e=>zl7 CK e
end Go.PanE
namespace Go.PanE
def zgB:Nat→Value→Bool
 |d+1,.agg cs=>cs.toList.all (zgB d)
 |_,v=>zb3 v
theorem zjw{μ:Loc}:∀ (d:Nat) (v:Value),zgB d v=true→VRel μ v v:=by
 intro d
 induction d with
 |zero=>
  intro v e
  exact plainV_rel (by cases v <;>exact e)
 |succ d ih=>
  intro v e
  cases v with
  |agg cs=>
   refine .agg _ _ rfl (fun i x x' h1 h2=>?_)
   rw[h1] at h2
   simp only[sJ] at h2;subst h2
   exact ih x (List.all_eq_true.1 e x (Array.mem_toList_iff.2 (Array.mem_of_getElem? h1)))
  |_=>exact plainV_rel e
def zbE(P:Program)(x:FuncId→Option Ext)(ky:TypeId→Value→Bool):Env where
 und t:=P.underlying t
 size t:=(P.info? t).map (·.size)
 bytes t:=(P.info? t).map (·.bytes)
 zero t:=match P.info? t with
  |some i=>match i.zero with
   |some z=>if zgB 6 z then some z else none
   |none=>none
  |none=>none
 fn f:=match P.funcs[f]? with
  |some fn=>if !(fn.name== "runtime.NumGoroutine") && fn.body.isSome then some fn else none
  |none=>none
 plain t:= !P.stoodInHeld t && !P.eqGuardType P.depth t
 key:=ky
 ext:=x
def zpZ(P:Program)(x:FuncId→Option Ext):Prop:=
 ∀ f e,x f=some e→∀ args h v h',e.run args h=some (v,h')→∀ (μ:Loc) (w:World) (args':Vs),Rep μ h w→zh μ args args'→
  ∃ u ν v',(callFunc f ⟨args'⟩).run P w= .ok (.value v') u∧Go1 μ h w ν h' u∧VRel ν v v'
theorem zoH(P:Program){x:FuncId→Option Ext}(hx:zpZ P x){ky:TypeId→Value→Bool}(hky:∀ t v,ky t v=true→WideMaps.KeyLaw P t∧∃ l,keyOf P t v=some l):EnvOK P (zbE P x ky) where
 ext:=hx
 key:=hky
 und _ _ e:=e
 size t n e:=by
  simp only[zbE,Option.map_eq_some_iff] at e
  exact e
 bytes t n e:=by
  simp only[zbE,Option.map_eq_some_iff] at e
  exact e
 zero t z e:=by
  simp only[zbE] at e
  split at e
  ·rename_i i hi
   split at e
   ·rename_i z' hz
    split at e
    ·rename_i hp
     simp only[sJ] at e;subst e
     exact⟨⟨i,hi,hz⟩,fun μ=>zjw 6 _ hp⟩
    ·simp at e
   ·simp at e
  ·simp at e
 fn f fn e:=by
  simp only[zbE] at e
  split at e
  ·rename_i fn' hf
   split at e
   ·rename_i hc
    simp only[sJ] at e;subst e
    simp only[bA,Bool.not_eq_true'] at hc
    exact⟨hf,hc.1,hc.2⟩
   ·simp at e
  ·simp at e
 plain t e:=by
  simp only[zbE,bA,Bool.not_eq_true'] at e
  exact e
inductive Guess where
 |n
 |b (x:Bool)
 |v (x:Value)
 |e (x:Value) (h:Heap)
 |o (mk:Nat→Value) (obj:AObj)
 |s (x:Ex) (l:List (Nat×Value)) (h:Heap)
def wG:List Prop→Prop
 |[]=>True
 |p::l=>p∧wG l
theorem wZ:∀ (l m:List Prop),wG (l++m)↔wG l∧wG m:=by
 intro l m
 induction l with
 |nil=>simp[wG]
 |cons p l ih=>simp only[List.cons_append,wG,ih,and_assoc]
def zW(ov tm:T Value):Prop:=∀ t v,ov.get t=some v→rdT tm t=v
theorem zW.put{ov tm:T Value}(A:zW ov tm)(d:Nat)(v:Value):zW (ov.put d v) (tm.put d v):=by
 intro t x h
 unfold rdT
 rw[T.get_put] at h ⊢
 split at h
 ·rename_i e;rw[if_pos e];simpa using h
 ·rename_i e;rw[if_neg e];exact A t x h
theorem zW.rd{ov tm:T Value}(A:zW ov tm){t:Nat}(h:(ov.get t).isSome=true):rdT ov t=rdT tm t:=by
 cases e:ov.get t with
 |none=>rw[e] at h;simp at h
 |some v=>rw[A t v e];simp[rdT,e]
def zfX(ov:T Value)(x:Operand):Bool:=match x with| .tmp t=>(ov.get t).isSome|_=>true
theorem zgU{ov tm:T Value}(A:zW ov tm){x:Operand}(h:zfX ov x=true):PanE.rd ov x=PanE.rd tm x:=by
 cases x with
 |tmp t=>simp only[PanE.rd,A.rd h]
 |_=>rfl
def uk(ov:T Value)(op:Op):Bool:=op.operands.toList.all (zfX ov)
theorem zff{ov tm:T Value}(A:zW ov tm){op:Op}(h:uk ov op=true):∀ x,x∈op.operands.toList→PanE.rd ov x=PanE.rd tm x:=
 fun x hx=>zgU A (List.all_eq_true.1 h x hx)
def isG:Op→Bool
 | .binOp .. | .load .. | .index .. | .indexAddr .. | .slice .. | .lookup .. | .convert .. | .makeSlice .. | .store .. | .next .. | .mapUpdate .. =>true
 | .call ⟨.builtin .len,_,_⟩| .call ⟨.builtin .cap,_,_⟩=>false
 | .call _=>true
 |_=>false
inductive GO where
 |q (v:Value)
 |a (mk:Nat→Value) (obj:AObj)
 |e (v:Value) (h:Heap)
section
variable (env:Env) (call:wQ) (nt:Nat)
def qN(h:Heap)(ov:T Value)(op:Op):Option GO:=
 match opQ env h ov op with
 |some v=>some (.q v)
 |none=>match opA env ov op with
  |some (mk,obj)=>some (.a mk obj)
  |none=>match opE env call h ov op with
   |some (v,h')=>some (.e v h')
   |none=>none
def gop(gs:List Guess)(h:Heap)(ov:T Value)(op:Op):Option (List Guess×List Prop×GO):=
 bif uk ov op then
  bif isG op then
   match gs with
   | .n::gs=>match qN env call h ov op with|some r=>some (gs,[],r)|none=>none
   | .v v::gs=>some (gs,[opQ env h ov op=some v],.q v)
   | .b g::gs=>match opQ env h ov op with|some (.bool b)=>some (gs,[b=g],.q (.bool g))|_=>none
   | .o mk obj::gs=>match opQ env h ov op with|none=>some (gs,[opA env ov op=some (mk,obj)],.a mk obj)|some _=>none
   | .e v h'::gs=>match opQ env h ov op with
    |none=>match opA env ov op with|none=>some (gs,[opE env call h ov op=some (v,h')],.e v h')|some _=>none
    |some _=>none
   |_=>none
  else match qN env call h ov op with|some r=>some (gs,[],r)|none=>none
 else none
def zg1(dst:Option Tmp)(ov:T Value)(h:Heap):GO→Option St
 | .q v=>match jB nt dst v ov with|some ov'=>some ⟨ov',h⟩|none=>none
 | .a mk obj=>match jB nt dst (mk h.nx) ov with|some ov'=>some ⟨ov',h.alloc obj⟩|none=>none
 | .e v h'=>match jB nt dst v ov with|some ov'=>some ⟨ov',h'⟩|none=>none
theorem qc{dst:Option Tmp}{v:Value}{ov ov' tm:T Value}(A:zW ov tm)(e:jB nt dst v ov=some ov'):∃ tm',jB nt dst v tm=some tm'∧zW ov' tm':=by
 unfold jB at e ⊢
 split at e
 ·simp only[sJ] at e;subst e;exact⟨tm,rfl,A⟩
 ·rename_i d
  split at e
  ·rename_i hd
   simp only[sJ] at e;subst e
   exact⟨tm.put d v,by rw[if_pos hd],A.put d v⟩
  ·simp at e
theorem zo9{h:Heap}{tm:T Value}{o:Oper}{r:GO}(e:qN env call h tm o.op=some r):op1 env call nt ⟨tm,h⟩ o=zg1 nt o.dst tm h r:=by
 unfold qN at e
 unfold op1
 simp only
 split at e
 ·rename_i v hq
  simp only[sJ] at e;subst e
  rw[hq];rfl
 ·rename_i hq
  rw[hq]
  simp only
  split at e
  ·rename_i mk obj ha
   simp only[sJ] at e;subst e
   rw[ha];rfl
  ·rename_i ha
   rw[ha]
   simp only
   split at e
   ·rename_i v h' he
    simp only[sJ] at e;subst e
    rw[he];rfl
   ·simp at e
theorem zrW{h:Heap}{ov tm:T Value}{op:Op}(hl:∀ x,x∈op.operands.toList→rd ov x=rd tm x):qN env call h ov op=qN env call h tm op:=by
 unfold qN
 rw[zgD hl,zlu hl,zlt hl]
theorem zby{gs gs':List Guess}{fs:List Prop}{h:Heap}{ov tm:T Value}{op:Op}{r:GO}(A:zW ov tm)(e:gop env call gs h ov op=some (gs',fs,r))(hf:wG fs):qN env call h tm op=some r:=by
 unfold gop at e
 cases ha:uk ov op with
 |false=>rw[ha] at e;simp at e
 |true=>
  rw[← zrW env call (zff A ha)]
  rw[ha] at e
  simp only[cond_true] at e
  cases hg:isG op with
  |false=>
   rw[hg] at e
   simp only[cond_false] at e
   split at e
   ·rename_i r' hr
    simp only[sJ,pJ] at e
    rw[hr,e.2.2]
   ·simp at e
  |true=>
   rw[hg] at e
   simp only[cond_true] at e
   split at e
   ·split at e
    ·rename_i r' hr
     simp only[sJ,pJ] at e
     rw[hr,e.2.2]
    ·simp at e
   ·simp only[sJ,pJ] at e
    obtain⟨_,rfl,rfl⟩:=e
    unfold qN
    rw[hf.1]
   ·split at e
    ·rename_i b hq
     simp only[sJ,pJ] at e
     obtain⟨_,rfl,rfl⟩:=e
     unfold qN
     rw[hq,hf.1]
    ·simp at e
   ·split at e
    ·rename_i hq
     simp only[sJ,pJ] at e
     obtain⟨_,rfl,rfl⟩:=e
     unfold qN
     rw[hq,hf.1]
    ·simp at e
   ·split at e
    ·rename_i hq
     split at e
     ·rename_i ha2
      simp only[sJ,pJ] at e
      obtain⟨_,rfl,rfl⟩:=e
      unfold qN
      rw[hq,ha2,hf.1]
     ·simp at e
    ·simp at e
   ·simp at e
theorem zjV{dst:Option Tmp}{ov tm:T Value}{h:Heap}{r:GO}{s':St}(A:zW ov tm)(e:zg1 nt dst ov h r=some s'):∃ tm',zg1 nt dst tm h r=some ⟨tm',s'.h⟩∧zW s'.tm tm':=by
 unfold zg1 at e ⊢
 cases r with
 |q v=>
  simp only at e ⊢
  split at e
  ·rename_i ov' hp
   simp only[sJ] at e;subst e
   obtain⟨tm',h1,h2⟩:=qc nt A hp
   exact⟨tm',by rw[h1],h2⟩
  ·simp at e
 |a mk obj=>
  simp only at e ⊢
  split at e
  ·rename_i ov' hp
   simp only[sJ] at e;subst e
   obtain⟨tm',h1,h2⟩:=qc nt A hp
   exact⟨tm',by rw[h1],h2⟩
  ·simp at e
 |e v h'=>
  simp only at e ⊢
  split at e
  ·rename_i ov' hp
   simp only[sJ] at e;subst e
   obtain⟨tm',h1,h2⟩:=qc nt A hp
   exact⟨tm',by rw[h1],h2⟩
  ·simp at e
def za7(ops:List Oper)(ov:T Value)(o:Oper):Bool:=
 match o.guard with
 |none=>true
 |some (j,_)=>match ops[j]? with
  |some g=>match g.dst with
   |some d=>(ov.get d).isSome
   |none=>true
  |none=>true
theorem zbV{ops:List Oper}{ov tm:T Value}{o:Oper}(A:zW ov tm)(h:za7 ops ov o=true):wM ops ov o=wM ops tm o:=by
 unfold wM
 unfold za7 at h
 cases hg:o.guard with
 |none=>rfl
 |some g=>
  obtain⟨j,want⟩:=g
  rw[hg] at h
  simp only at h ⊢
  have:um ops ov j=um ops tm j:=by
   unfold um
   cases ho:ops[j]? with
   |none=>rfl
   |some q=>
    rw[ho] at h
    simp only at h ⊢
    cases hd:q.dst with
    |none=>rfl
    |some d=>
     rw[hd] at h
     simp only at h ⊢
     rw[A.rd h]
  rw[this]
def zeT(ops:List Oper):List Oper→List Guess→St→Option (List Guess×List Prop×St)
 |[],gs,s=>some (gs,[],s)
 |o::l,gs,s=>
  bif za7 ops s.tm o then
   bif wM ops s.tm o then
    match gop env call gs s.h s.tm o.op with
    |some (gs1,fs,r)=>match zg1 nt o.dst s.tm s.h r with
     |some s1=>match zeT ops l gs1 s1 with
      |some (gs2,fs2,s2)=>some (gs2,fs++fs2,s2)
      |none=>none
     |none=>none
    |none=>none
   else match jB nt o.dst undef s.tm with
    |some tm=>zeT ops l gs ⟨tm,s.h⟩
    |none=>none
  else none
theorem zrt(ops:List Oper):∀ (l:List Oper) (gs gs':List Guess) (s s':St) (fs:List Prop),zeT env call nt ops l gs s=some (gs',fs,s')→wG fs→∀ tm,zW s.tm tm→∃ tm',zaa env call nt ops l ⟨tm,s.h⟩=some ⟨tm',s'.h⟩∧zW s'.tm tm':=by
 intro l
 induction l with
 |nil=>
  intro gs gs' s s' fs e hf tm A
  simp only[zeT,sJ,pJ] at e
  obtain⟨_,_,rfl⟩:=e
  exact⟨tm,rfl,A⟩
 |cons o l ih=>
  intro gs gs' s s' fs e hf tm A
  rw[zeT] at e
  cases hk:za7 ops s.tm o with
  |false=>rw[hk] at e;simp at e
  |true=>
   rw[hk] at e
   simp only[cond_true] at e
   have hw:=zbV A hk
   cases hwa:wM ops s.tm o with
   |true=>
    rw[hwa] at e hw
    simp only[cond_true] at e
    split at e
    ·rename_i gs1 fs1 r hop
     split at e
     ·rename_i s1 hp
      split at e
      ·rename_i gs2 fs2 s2 hrest
       simp only[sJ,pJ] at e
       obtain⟨_,rfl,rfl⟩:=e
       rw[wZ] at hf
       obtain⟨tm1,h1,A1⟩:=zjV nt A hp
       have h2:=zo9 env call nt (o:=o) (zby env call A hop hf.1)
       rw[h1] at h2
       obtain⟨tm',h3,A2⟩:=ih gs1 gs2 s1 s2 fs2 hrest hf.2 tm1 A1
       refine⟨tm',?_,A2⟩
       rw[zaa]
       rw[← hw,if_pos rfl,h2]
       exact h3
      ·simp at e
     ·simp at e
    ·simp at e
   |false=>
    rw[hwa] at e hw
    simp only[cond_false] at e
    split at e
    ·rename_i ov1 hp
     obtain⟨tm1,h1,A1⟩:=qc nt A hp
     obtain⟨tm',h3,A2⟩:=ih gs gs' ⟨ov1,s.h⟩ s' fs e hf tm1 A1
     refine⟨tm',?_,A2⟩
     rw[zaa]
     rw[← hw,if_neg (by simp),h1]
     exact h3
    ·simp at e
end
inductive RR:List Rec→List Rec→Prop where
 |nil:RR [] []
 |cons (r:Rec) (l l':List Rec) (tm':T Value) (hA:zW r.tm tm') (hk:r.want=true→r.kd=0→uk r.tm r.o.op=true) (h:RR l l'):RR (r::l) ({r with tm:=tm'}::l')
theorem RR.snoc{r:Rec}{tm':T Value}(hA:zW r.tm tm')(hk:r.want=true→r.kd=0→uk r.tm r.o.op=true){l l':List Rec}(h:RR l l'):RR (l++[r]) (l'++[{r with tm:=tm'}]):=by
 induction h with
 |nil=>exact .cons r [] [] tm' hA hk .nil
 |cons q l l' t a b _ ih=>exact .cons q _ _ t a b ih
theorem RR.get{l l':List Rec}(h:RR l l'):∀ (i:Nat) (r':Rec),l'[i]? =some r'→∃ (r:Rec) (tm':T Value),l[i]? =some r∧r'={r with tm:=tm'}∧zW r.tm tm'∧(r.want=true→r.kd=0→uk r.tm r.o.op=true):=by
 induction h with
 |nil=>intro i r' h;simp at h
 |cons q l l' t a b _ ih=>
  intro i r' h
  cases i with
  |zero=>
   simp only[List.getElem?_cons_zero,sJ] at h;subst h
   exact⟨q,t,rfl,rfl,a,b⟩
  |succ i=>
   simp only[List.getElem?_cons_succ] at h ⊢
   exact ih i r' h
theorem RR.get2{l l':List Rec}(h:RR l l'):∀ (i:Nat),(∃ (r:Rec) (tm':T Value),l[i]? =some r∧l'[i]? =some {r with tm:=tm'})∨(l[i]? =none∧l'[i]? =none):=by
 induction h with
 |nil=>intro i;right;simp
 |cons q l l' t a b _ ih=>
  intro i
  cases i with
  |zero=>exact .inl ⟨q,t,rfl,rfl⟩
  |succ i=>simpa using ih i
theorem RR.take{l l':List Rec}(h:RR l l'):∀ n,RR (l.take n) (l'.take n):=by
 induction h with
 |nil=>intro n;simp;exact .nil
 |cons q l l' t a b _ ih=>
  intro n
  cases n with
  |zero=>exact .nil
  |succ n=>exact .cons q _ _ t a b (ih n)
theorem RR.bear{l l':List Rec}(h:RR l l')(mask born:Nat):∀ (k:Nat) (g:Heap),wv mask born l k g=wv mask born l' k g:=by
 induction h with
 |nil=>intro k g;rfl
 |cons q l l' t a b _ ih=>
  intro k g
  simp only[PanE.wv,ih]
  rfl
theorem RR.anc{l l':List Rec}(h:RR l l')(es:List Edge):wI l es=wI l' es:=by
 unfold wI
 congr 1
 funext s e
 rcases h.get2 e.on with⟨r,t,h1,h2⟩|⟨h1,h2⟩
 ·rw[h1,h2]
 ·rw[h1,h2]
theorem RR.chain{l l':List Rec}(h:RR l l'):∀ (tr:List Eff),ju l tr=ju l' tr:=by
 intro tr
 induction tr with
 |nil=>rfl
 |cons a tr ih=>
  cases tr with
  |nil=>rfl
  |cons b tr=>
   simp only[ju,ih]
   rcases h.get2 b.i with⟨r,t,h1,h2⟩|⟨h1,h2⟩
   ·rw[h1,h2]
   ·rw[h1,h2]
theorem zdw{α:Type}(l:List α)(p:α×Nat→Bool)(h:∀ (i:Nat) (r:α),l[i]? =some r→p (r,i)=true):l.zipIdx.all p=true:=by
 rw[List.all_eq_true]
 rintro⟨r,i⟩ hx
 exact h i r (List.mk_mem_zipIdx_iff_getElem?.1 hx)
theorem RR.order{ops:List Oper}{l l':List Rec}(h:RR l l')(e:jX ops l=true):jX ops l'=true:=by
 unfold jX at e ⊢
 refine zdw _ _ (fun i r' hr'=>?_)
 obtain⟨r,t,hr,rfl,_⟩:=h.get i r' hr'
 have h1:=za2 _ _ e i r hr
 simp only[bA] at h1 ⊢
 refine⟨h1.1,zdw _ _ (fun k q' hq'=>?_)⟩
 obtain⟨q,t2,hq,rfl,_⟩:=h.get k q' hq'
 exact za2 _ _ h1.2 k q hq
section
variable (env:Env) (call:wQ) (nt:Nat) (ops:List Oper)
def zg0(k:Nat)(o:Oper)(gs:List Guess)(d:DS):Option (List Guess×List Prop×DS):=
 bif za7 ops d.tm o then
  bif wM ops d.tm o then
   match gop env call gs (wv (wI d.recs o.after.toList) d.born d.recs 0 d.cur) d.tm o.op with
   |some (gs1,fs,.q v)=>bif Nat.beq (qH env o.op) 0 then
     match jB nt o.dst v d.tm with
     |some tm=>some (gs1,fs,{d with recs:=d.recs++[⟨o,wI d.recs o.after.toList,true,0,v,0,.map [],d.tm⟩],tm:=tm})
     |none=>none
    else none
   |some (gs1,fs,.a mk obj)=>bif Nat.beq (qH env o.op) 1 then
     match jB nt o.dst (mk d.na) d.tm with
     |some tm=>some (gs1,fs,{d with recs:=d.recs++[⟨o,wI d.recs o.after.toList,true,1,mk d.na,d.na,obj,d.tm⟩],tm:=tm,na:=d.na+1})
     |none=>none
    else none
   |some (gs1,fs,.e v post)=>bif Nat.ble 2 (qH env o.op) then
     match jB nt o.dst v d.tm with
     |some tm=>some (gs1,fs,{recs:=d.recs++[⟨o,wI d.recs o.after.toList,true,2,v,0,.map [],d.tm⟩],tm:=tm,cur:=post,born:=yK (wI d.recs o.after.toList) d.born,traj:=d.traj++[⟨k,wv (wI d.recs o.after.toList) d.born d.recs 0 d.cur,post,yK (wI d.recs o.after.toList) d.born⟩],na:=d.na})
     |none=>none
    else none
   |none=>none
  else match jB nt o.dst undef d.tm with
   |some tm=>some (gs,[],{d with recs:=d.recs++[⟨o,wI d.recs o.after.toList,false,qH env o.op,undef,0,.map [],d.tm⟩],tm:=tm})
   |none=>none
 else none
def zd5:List Oper→Nat→List Guess→DS→Option (List Guess×List Prop×DS)
 |[],_,gs,d=>some (gs,[],d)
 |o::l,k,gs,d=>match zg0 env call nt ops k o gs d with
  |some (gs1,fs,d1)=>match zd5 l (k+1) gs1 d1 with
   |some (gs2,fs2,d2)=>some (gs2,fs++fs2,d2)
   |none=>none
  |none=>none
def DR(d d':DS):Prop:=RR d.recs d'.recs∧zW d.tm d'.tm∧d'.cur=d.cur∧d'.born=d.born∧d'.traj=d.traj∧d'.na=d.na
theorem zuC{h:Heap}{tm:T Value}{op:Op}{v:Value}(e:qN env call h tm op=some (.q v)):opQ env h tm op=some v:=by
 unfold qN at e
 split at e
 ·rename_i v' hq
  simp only[sJ,GO.q.injEq] at e;subst e;exact hq
 ·split at e
  ·simp at e
  ·split at e
   ·simp at e
   ·simp at e
theorem zuE{h:Heap}{tm:T Value}{op:Op}{mk:Nat→Value}{obj:AObj}(e:qN env call h tm op=some (.a mk obj)):opA env tm op=some (mk,obj):=by
 unfold qN at e
 split at e
 ·simp at e
 ·split at e
  ·rename_i mk' obj' ha
   simp only[sJ,GO.a.injEq] at e
   rw[ha,e.1,e.2]
  ·split at e
   ·simp at e
   ·simp at e
theorem zuD{h:Heap}{tm:T Value}{op:Op}{v:Value}{h':Heap}(e:qN env call h tm op=some (.e v h')):opE env call h tm op=some (v,h'):=by
 unfold qN at e
 split at e
 ·simp at e
 ·split at e
  ·simp at e
  ·split at e
   ·rename_i v' g he
    simp only[sJ,GO.e.injEq] at e
    rw[he,e.1,e.2]
   ·simp at e
theorem zlU{k:Nat}{o:Oper}{gs gs':List Guess}{d d1:DS}{fs:List Prop}(e:zg0 env call nt ops k o gs d=some (gs',fs,d1))(hf:wG fs){d':DS}(R:DR d d'):
  ∃ d1',zae env call nt ops k o d'=some d1'∧DR d1 d1':=by
 obtain⟨R1,R2,R3,R4,R5,R6⟩:=R
 unfold zg0 at e
 unfold zae
 simp only
 rw[← R1.anc,← R1.bear,R3,R4]
 cases hk:za7 ops d.tm o with
 |false=>rw[hk] at e;simp at e
 |true=>
  rw[hk] at e
  simp only[cond_true] at e
  have hw:=zbV R2 hk
  rw[← hw]
  cases hwa:wM ops d.tm o with
  |false=>
   rw[hwa] at e
   simp only[cond_false] at e
   rw[if_neg (by simp)]
   split at e
   ·rename_i tm hp
    simp only[sJ,pJ] at e
    obtain⟨_,_,rfl⟩:=e
    obtain⟨tm',h1,h2⟩:=qc nt R2 hp
    rw[h1]
    exact⟨_,rfl,R1.snoc (r:=⟨o,_,false,qH env o.op,undef,0,.map [],d.tm⟩) R2 (by simp),h2,rfl,rfl,R5,R6⟩
   ·simp at e
  |true=>
   rw[hwa] at e
   simp only[cond_true] at e
   rw[if_pos rfl]
   have hall:∀ {x:List Guess×List Prop×GO},gop env call gs (PanE.wv (wI d.recs o.after.toList) d.born d.recs 0 d.cur) d.tm o.op=some x→uk d.tm o.op=true:=by
    intro x hx
    unfold gop at hx
    cases ha:uk d.tm o.op with
    |true=>rfl
    |false=>rw[ha] at hx;simp at hx
   split at e
   ·rename_i gs1 fs1 v hop
    have hall':=hall hop
    cases hkd:Nat.beq (qH env o.op) 0 with
    |false=>rw[hkd] at e;simp at e
    |true=>
     rw[hkd] at e
     simp only[cond_true] at e
     rw[nB_ hkd]
     simp only
     split at e
     ·rename_i tm hp
      simp only[sJ,pJ] at e
      obtain⟨_,rfl,rfl⟩:=e
      obtain⟨tm',h1,h2⟩:=qc nt R2 hp
      rw[zuC env call (zby env call R2 hop hf)]
      simp only
      rw[h1]
      exact⟨_,rfl,R1.snoc (r:=⟨o,_,true,0,v,0,.map [],d.tm⟩) R2 (fun _ _=>hall'),h2,rfl,rfl,R5,R6⟩
     ·simp at e
   ·rename_i gs1 fs1 mk obj hop
    cases hkd:Nat.beq (qH env o.op) 1 with
    |false=>rw[hkd] at e;simp at e
    |true=>
     rw[hkd] at e
     simp only[cond_true] at e
     rw[nB_ hkd]
     simp only
     split at e
     ·rename_i tm hp
      simp only[sJ,pJ] at e
      obtain⟨_,rfl,rfl⟩:=e
      obtain⟨tm',h1,h2⟩:=qc nt R2 hp
      rw[zuE env call (zby env call R2 hop hf)]
      simp only
      rw[R6,h1]
      exact⟨_,rfl,R1.snoc (r:=⟨o,_,true,1,mk d.na,d.na,obj,d.tm⟩) R2 (by simp),h2,rfl,rfl,R5,rfl⟩
     ·simp at e
   ·rename_i gs1 fs1 v post hop
    cases hkd:Nat.ble 2 (qH env o.op) with
    |false=>rw[hkd] at e;simp at e
    |true=>
     rw[hkd] at e
     simp only[cond_true] at e
     have hkd2:2≤qH env o.op:=Nat.le_of_ble_eq_true hkd
     split at e
     ·rename_i tm hp
      simp only[sJ,pJ] at e
      obtain⟨_,rfl,rfl⟩:=e
      obtain⟨tm',h1,h2⟩:=qc nt R2 hp
      have he:=zuD env call (zby env call R2 hop hf)
      split
      ·omega
      ·omega
      ·rw[he]
       simp only
       rw[h1,R5]
       exact⟨_,rfl,R1.snoc (r:=⟨o,_,true,2,v,0,.map [],d.tm⟩) R2 (by simp),h2,rfl,rfl,rfl,R6⟩
     ·simp at e
   ·simp at e
theorem zoq:∀ (l:List Oper) (k:Nat) (gs gs':List Guess) (d d1:DS) (fs:List Prop),zd5 env call nt ops l k gs d=some (gs',fs,d1)→wG fs→∀ d',DR d d'→
  ∃ d1',qL env call nt ops l k d'=some d1'∧DR d1 d1':=by
 intro l
 induction l with
 |nil=>
  intro k gs gs' d d1 fs e hf d' R
  simp only[zd5,sJ,pJ] at e
  obtain⟨_,_,rfl⟩:=e
  exact⟨d',rfl,R⟩
 |cons o l ih=>
  intro k gs gs' d d1 fs e hf d' R
  simp only[zd5] at e
  split at e
  ·rename_i gs1 fs1 d2 h1
   split at e
   ·rename_i gs2 fs2 d3 h2
    simp only[sJ,pJ] at e
    obtain⟨_,rfl,rfl⟩:=e
    rw[wZ] at hf
    obtain⟨d2',h3,R2⟩:=zlU env call nt ops h1 hf.1 R
    obtain⟨d3',h4,R3⟩:=ih (k+1) gs1 gs2 d2 d3 fs2 h2 hf.2 d2' R2
    refine⟨d3',?_,R3⟩
    simp only[qL,h3]
    exact h4
   ·simp at e
  ·simp at e
def qf(recs:List Rec)(r:Rec)(i:Nat):List Eff→List Eff→Heap→Nat→List Prop
 |done,todo,cur,born=>
  (bif (done.any fun x=>match recs[x.i]? with|some q=>jc q.anc i|none=>true) || (todo.any fun x=>jc r.anc x.i) then[]
   else[opQ env (wv r.anc born (recs.take i) 0 cur) r.tm r.o.op=some r.v])++
  (match todo with
   |[]=>[]
   |x::todo'=>qf recs r i (done++[x]) todo' x.post x.born)
def zfE(recs:List Rec)(traj:List Eff)(h0:Heap):List Rec→Nat→List Prop
 |[],_=>[]
 |r::l,i=>(bif r.want && Nat.beq r.kd 0 && jI r.o.op then qf env recs r i [] traj h0 0 else[])++zfE recs traj h0 l (i+1)
theorem zlc(recs:List Rec)(traj:List Eff)(h0:Heap):∀ (l:List Rec) (k:Nat),wG (zfE env recs traj h0 l k)→∀ (i:Nat) (r:Rec),l[i]? =some r→r.want=true→r.kd=0→jI r.o.op=true→wG (qf env recs r (k+i) [] traj h0 0):=by
 intro l
 induction l with
 |nil=>intro k _ i r h;simp at h
 |cons q l ih=>
  intro k hf i r h hw hk hu
  rw[zfE,wZ] at hf
  cases i with
  |zero=>
   simp only[List.getElem?_cons_zero,sJ] at h;subst h
   have:=hf.1
   rw[hw,hk,hu] at this
   exact this
  |succ i=>
   have:=ih (k+1) hf.2 i r (by simpa using h) hw hk hu
   rw[show k+(i+1)=k+1+i by omega]
   exact this
theorem zwd{recs recs':List Rec}(RR1:RR recs recs'){r:Rec}{tm':T Value}(A:zW r.tm tm')(hall:uk r.tm r.o.op=true)(i:Nat):∀ (todo done:List Eff) (cur:Heap) (born:Nat),wG (qf env recs r i done todo cur born)→
  quietP env recs' {r with tm:=tm'} i done todo cur born:=by
 have one:∀ (todo done:List Eff) (cur:Heap) (born:Nat),wG (bif (done.any fun x=>match recs[x.i]? with|some q=>jc q.anc i|none=>true) || (todo.any fun x=>jc r.anc x.i) then[]
   else[opQ env (wv r.anc born (recs.take i) 0 cur) r.tm r.o.op=some r.v])→
   ((done.any fun x=>match recs'[x.i]? with|some q=>jc q.anc i|none=>true) || (todo.any fun x=>jc r.anc x.i))=true∨opQ env (wv r.anc born (recs'.take i) 0 cur) tm' r.o.op=some r.v:=by
  intro todo done cur born h
  have hd:(done.any fun x=>match recs[x.i]? with|some q=>jc q.anc i|none=>true)=(done.any fun x=>match recs'[x.i]? with|some q=>jc q.anc i|none=>true):=by
   congr 1
   funext x
   rcases RR1.get2 x.i with⟨q,t,h1,h2⟩|⟨h1,h2⟩
   ·rw[h1,h2]
   ·rw[h1,h2]
  rw[hd] at h
  cases hc:((done.any fun x=>match recs'[x.i]? with|some q=>jc q.anc i|none=>true) || (todo.any fun x=>jc r.anc x.i)) with
  |true=>exact .inl rfl
  |false=>
   right
   rw[hc] at h
   rw[← (RR1.take i).bear,← zgD (zff A hall)]
   exact h.1
 intro todo
 induction todo with
 |nil=>
  intro done cur born h
  unfold qf at h
  rw[wZ] at h
  unfold quietP
  exact⟨one [] done cur born h.1,trivial⟩
 |cons x todo ih=>
  intro done cur born h
  unfold qf at h
  rw[wZ] at h
  unfold quietP
  exact⟨one (x::todo) done cur born h.1,ih _ _ _ h.2⟩
def zjY(gs:List Guess)(s:St):Option (List Guess×List Prop×St):=
 match zd5 env call nt ops ops 0 gs ⟨[],s.tm,zd (wt env ops) s.h,0,[],s.h.nx⟩ with
 |some (gs',fs,d)=>
  bif jX ops d.recs && ju d.recs d.traj then
   some (gs',fs++((d.na=s.h.nx+wt env ops)::zfE env d.recs d.traj (zd (wt env ops) s.h) d.recs 0),⟨d.tm,wv (2 ^ ops.length - 1) d.born d.recs 0 d.cur⟩)
  else none
 |none=>none
theorem zov{gs gs':List Guess}{s s':St}{fs:List Prop}(e:zjY env call nt ops gs s=some (gs',fs,s'))(hf:wG fs){tm:T Value}(A:zW s.tm tm):
  ∃ tm',qB env call nt ops ⟨tm,s.h⟩=some ⟨tm',s'.h⟩∧zW s'.tm tm':=by
 unfold zjY at e
 split at e
 ·rename_i gs1 fs1 d hw
  cases hc:(jX ops d.recs && ju d.recs d.traj) with
  |false=>rw[hc] at e;simp at e
  |true=>
   rw[hc] at e
   simp only[cond_true,sJ,pJ] at e
   obtain⟨_,rfl,rfl⟩:=e
   rw[wZ] at hf
   obtain⟨hf1,hna,hq⟩:=hf
   rw[bA] at hc
   obtain⟨d',h1,R1,R2,R3,R4,R5,R6⟩:=zoq env call nt ops ops 0 gs gs1 _ d fs1 hw hf1 ⟨[],tm,zd (wt env ops) s.h,0,[],s.h.nx⟩ ⟨.nil,A,rfl,rfl,rfl,rfl⟩
   refine⟨d'.tm,?_,R2⟩
   unfold qB
   simp only
   rw[h1]
   simp only
   rw[R1.order hc.1,R5,← R1.chain,hc.2,R6,hna]
   have hbeq:Nat.beq (s.h.nx+wt env ops) (s.h.nx+wt env ops)=true:=Nat.beq_refl _
   rw[hbeq]
   simp only[Bool.and_self,cond_true]
   have hall:zbk env d'.recs d.traj (zd (wt env ops) s.h):=by
    intro i r' hr' hw' hk' hu'
    obtain⟨r,t,hr,rfl,hA,hh⟩:=R1.get i r' hr'
    have:=zlc env d.recs d.traj _ d.recs 0 hq i r hr hw' hk' hu'
    rw[Nat.zero_add] at this
    exact zwd env R1 hA (hh hw' hk') i _ _ _ _ this
   rw[R4,R3,← R1.bear]
   cases hqq:(d'.recs.zipIdx.all fun(r,i)=>!r.want || !Nat.beq r.kd 0 || !jI r.o.op || quietOK env d'.recs r i [] d.traj (zd (wt env ops) s.h) 0) with
   |true=>rfl
   |false=>
    simp only[cond_false]
    rw[if_pos hall]
 ·simp at e
end
end Go.PanE
