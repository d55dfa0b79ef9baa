/-
 Part 7 of the proof of Rows.DumpReadsCardSaid: What a call of the small machine makes, the model's call makes; what it calls pure leaves the memory. Under the conditions that it asks the program truly (EnvOK), that its drawn regions are true (DrawOK, DrawKeep) and what it is told of calls (OrcOK).
 A region whose order is open, walked once in the order of its text, with a look at all that another order could turn.
 A region whose order is open: operations hang on their operands alone; who stands ahead of whom.
 What the walk through a region whose order is open has written down.
-/
import Derived.Test.YtihkphfmnnndfaaGreatDoorT06
namespace Go.PanE
section
variable {P:Program} {env:Env} {call:CallT} {draw:DrawT} {μ:Loc} {h:Heap} {w:World} {tm:T Value} {tmps:Array Value}
theorem resOne_ok(E:EnvOK P env)(R:Rep μ h w)(TR:TRel μ tm tmps){r:ResultVar}{v:Value}(e:resOne env h tm r=some v):
  ∃ v',(match r with| .tmp t=>pure (tmps.getD t undef)| .cell a t=>do loadVar t (← asAddr (tmps.getD a undef)):Sem Value).run P w= .ok v' w∧VRel μ v v':=by
 cases r with
 |tmp t=>
  simp only[resOne,Option.some.injEq] at e;subst e
  exact⟨_,rfl,TR.2 t⟩
 |cell a t=>
  simp only[resOne] at e
  split at e
  ·rename_i ad ha
   have ra:=TR.2 a
   rw[ha] at ra
   obtain⟨v',hr,rv⟩:=loadV_ok (P:=P) E R ra e
   refine⟨v',?_,rv⟩
   simp only
   generalize tmps.getD a undef=x at ra hr ⊢
   cases ra with
   |ptr b o p hp=>
    simp only[Instr.loadAt,Instr.sureAddr,Sem.run_bind,Sem.run_pure,Result.andThen_ok] at hr
    simp only[asAddr,Sem.run_bind,Sem.run_pure,Result.andThen_ok,hr]
  ·simp at e
theorem resAll_ok(E:EnvOK P env)(R:Rep μ h w)(TR:TRel μ tm tmps):∀ (l:List ResultVar) (vs:List Value),resAll env h tm l=some vs→
  ∃ vs',(l.mapM fun r=>(match r with| .tmp t=>pure (tmps.getD t undef)| .cell a t=>do loadVar t (← asAddr (tmps.getD a undef)):Sem Value)).run P w= .ok vs' w∧LRel μ vs vs':=by
 intro l
 induction l with
 |nil=>intro vs e;simp only[resAll,Option.some.injEq] at e;subst e;exact⟨[],by simp,.nil⟩
 |cons r l ih=>
  intro vs e
  simp only[resAll] at e
  split at e
  ·rename_i v us hv hu
   simp only[Option.some.injEq] at e;subst e
   obtain⟨v',h1,r1⟩:=resOne_ok (P:=P) E R TR hv
   obtain⟨vs',h2,r2⟩:=ih us hu
   refine⟨v'::vs',?_,.cons r1 r2⟩
   rw[List.mapM_cons]
   simp only[Sem.run_bind,h1,h2,Result.andThen_ok,Sem.run_pure]
  ·simp at e
theorem results_ok(E:EnvOK P env){fn:Func}{s:St}{v:Value}(R:Rep μ s.h w)(TR:TRel μ s.tm tmps)(e:resultsA env fn s=some v):
  ∃ v',(results fn tmps).run P w= .ok v' w∧VRel μ v v':=by
 unfold resultsA at e
 have key:∀ vs,resAll env s.h s.tm fn.results.toList=some vs→∃ vs',(results fn tmps).run P w= .ok (if h:vs'.length=1 then vs'[0] else .tuple ⟨vs'⟩) w∧LRel μ vs vs':=by
  intro vs hvs
  obtain⟨vs',h1,r1⟩:=resAll_ok (P:=P) E R TR fn.results.toList vs hvs
  refine⟨vs',?_,r1⟩
  unfold results
  rw[Array.mapM_eq_mapM_toList]
  simp only[Sem.run_bind,Sem.run_map]
  refine(congrArg (fun r=>Result.andThen (Result.andThen r _) _) h1).trans ?_
  simp only[Result.andThen_ok,Sem.run_pure]
  congr 1
 split at e
 ·rename_i u hu
  simp only[Option.some.injEq] at e;subst e
  obtain⟨vs',h1,r1⟩:=key _ hu
  rcases r1.cases with⟨h,_⟩|⟨a,a',m,m',h,h',ra,rm⟩
  ·simp at h
  ·simp only[List.cons.injEq] at h;obtain⟨rfl,rfl⟩:=h
   rcases rm.cases with⟨_,h3⟩|⟨_,_,_,_,h,_⟩
   ·subst h3;subst h'
    exact⟨a',by simpa using h1,ra⟩
   ·simp at h
 ·rename_i us hne hu
  simp only[Option.some.injEq] at e;subst e
  obtain⟨vs',h1,r1⟩:=key _ hu
  refine⟨.tuple ⟨vs'⟩,?_,LRel.tuple.2 r1⟩
  rw[h1,dif_neg]
  intro hl
  have:=r1.1
  rw[hl] at this
  obtain⟨x,rfl⟩:=List.length_eq_one_iff.1 this
  exact hne x rfl
 ·simp at e
/-- A value that names old objects alone reads alike where the places are those of before. -/
theorem VRel.back{μ ν:Loc}{v x y:Value}(a:VRel μ v x)(hle:μ.le ν)(b:VRel ν v y):VRel μ v y:=by
 induction a generalizing y with
 |bool=>cases b;exact .bool _
 |int=>cases b;exact .int _ _
 |str=>cases b;exact .str _
 |nilp=>cases b;exact .nilp
 |ptr bb o p e=>
  cases b with
  |ptr _ _ q hq=>rw[hle _ _ e] at hq;simp only[Option.some.injEq] at hq;subst hq;exact .ptr bb o _ e
 |nils=>cases b;exact .nils
 |slice bb o l c c' p e hc=>
  cases b with
  |slice _ _ _ _ c2 q hq hc2=>rw[hle _ _ e] at hq;simp only[Option.some.injEq] at hq;subst hq;exact .slice bb o l c c2 _ e hc2
 |nilm=>cases b;exact .nilm
 |map bb p e=>
  cases b with
  |map _ q hq=>rw[hle _ _ e] at hq;simp only[Option.some.injEq] at hq;subst hq;exact .map bb _ e
 |nilf=>cases b;exact .nilf
 |func fn xs xs' ys ys' h1 h2 h3 h4 ih1 ih2=>
  cases b with
  |func _ _ zs _ us g1 g2 g3 g4=>
   refine .func fn xs zs ys us g1 (fun i a c ha hc=>?_) g3 (fun i a c ha hc=>?_)
   ·have hi:i < xs'.size:=by
     have:=Array.getElem?_eq_some_iff.1 ha
     obtain⟨hi,_⟩:=this
     omega
    exact ih1 i a xs'[i] ha (by simp[hi]) (g2 i a c ha hc)
   ·have hi:i < ys'.size:=by
     have:=Array.getElem?_eq_some_iff.1 ha
     obtain⟨hi,_⟩:=this
     omega
    exact ih2 i a ys'[i] ha (by simp[hi]) (g4 i a c ha hc)
 |nili=>cases b;exact .nili
 |iface t v v' _ ih=>cases b with|iface _ _ z hz=>exact .iface t v z (ih hz)
 |agg xs xs' h1 h2 ih=>
  cases b with
  |agg _ zs g1 g2=>
   refine .agg xs zs g1 (fun i a c ha hc=>?_)
   have hi:i < xs'.size:=by
    obtain⟨hi,_⟩:=Array.getElem?_eq_some_iff.1 ha
    omega
   exact ih i a xs'[i] ha (by simp[hi]) (g2 i a c ha hc)
 |tuple xs xs' h1 h2 ih=>
  cases b with
  |tuple _ zs g1 g2=>
   refine .tuple xs zs g1 (fun i a c ha hc=>?_)
   have hi:i < xs'.size:=by
    obtain⟨hi,_⟩:=Array.getElem?_eq_some_iff.1 ha
    omega
   exact ih i a xs'[i] ha (by simp[hi]) (g2 i a c ha hc)
theorem LRel.back{μ ν:Loc}{v x y:List Value}(a:LRel μ v x)(hle:μ.le ν)(b:LRel ν v y):LRel μ v y:=by
 refine⟨b.1,fun i p q hp hq=>?_⟩
 obtain⟨p',hp',rp⟩:=a.get hp
 exact rp.back hle (b.2 i p q hp hq)
/-- A value that names objects below a number alone. -/
theorem low_rel{μ ν:Loc}{nx:Nat}(hlow:∀ b,b < nx→ν b=μ b){v y:Value}(r:VRel ν v y):∀ d,lowV nx d v=true→VRel μ v y:=by
 induction r with
 |bool=>intro d _;exact .bool _
 |int=>intro d _;exact .int _ _
 |str=>intro d _;exact .str _
 |nilp=>intro d _;exact .nilp
 |ptr b o p e=>intro d hd;cases d <;>(simp only[lowV,Nat.blt_eq] at hd;exact .ptr b o p (by rw[← hlow b hd];exact e))
 |nils=>intro d _;exact .nils
 |slice b o l c c' p e hc=>intro d hd;cases d <;>(simp only[lowV,Nat.blt_eq] at hd;exact .slice b o l c c' p (by rw[← hlow b hd];exact e) hc)
 |nilm=>intro d _;exact .nilm
 |map b p e=>intro d hd;cases d <;>(simp only[lowV,Nat.blt_eq] at hd;exact .map b p (by rw[← hlow b hd];exact e))
 |nilf=>intro d _;exact .nilf
 |func=>intro d hd;cases d <;>simp[lowV] at hd
 |nili=>intro d _;exact .nili
 |iface t v v' _ ih=>intro d hd;cases d with
  |zero=>simp[lowV] at hd
  |succ d=>exact .iface t v v' (ih d (by simpa[lowV] using hd))
 |agg xs xs' h1 h2 ih=>intro d hd;cases d with
  |zero=>simp[lowV] at hd
  |succ d=>
   refine .agg xs xs' h1 (fun i a c ha hc=>ih i a c ha hc d ?_)
   simp only[lowV] at hd
   exact List.all_eq_true.1 hd a (Array.mem_toList_iff.2 (Array.mem_of_getElem? ha))
 |tuple xs xs' h1 h2 ih=>intro d hd;cases d with
  |zero=>simp[lowV] at hd
  |succ d=>
   refine .tuple xs xs' h1 (fun i a c ha hc=>ih i a c ha hc d ?_)
   simp only[lowV] at hd
   exact List.all_eq_true.1 hd a (Array.mem_toList_iff.2 (Array.mem_of_getElem? ha))
/-- What a call left below its beginning is as it was: the memory of before serves again. -/
theorem go_restore{ν:Loc}{g:Heap}{u:World}(R:Rep μ h w)(G:Go1 μ h w ν g u)(hk:∀ b,b < h.nx→g.get b=h.get b):Go1 μ h w μ h u:=by
 refine⟨μ.le_refl,⟨?_,R.inj,R.fresh,fun b p hp=>Nat.lt_of_lt_of_le (R.bound b p hp) G.size,R.glob⟩,G.size,fun k hk _=>hk,G.frame,G.os,G.out,G.tape,Nat.le_refl _,fun _ _=>rfl⟩
 intro b o hb
 obtain⟨p,hp,ho⟩:=R.live b o hb
 have hb2:g.get b=some o:=by rw[hk b (Heap.lt_of_get hb)];exact hb
 obtain⟨q,hq,ho2⟩:=G.rep.live b o hb2
 rw[G.ext b p hp] at hq;simp only[Option.some.injEq] at hq;subst hq
 refine⟨p,hp,?_⟩
 cases o with
 |row el cells es ro=>
  obtain⟨arr,fr,a1,a2,a3,a4,a5,a6,a7⟩:=ho2
  obtain⟨_,_,_,_,_,_,_,b6,_⟩:=ho
  exact⟨arr,fr,a1,a2,a3,a4,a5,b6.back G.ext a6,a7⟩
 |map es=>
  obtain⟨e,c,a1,a2,a3,a4⟩:=ho2
  obtain⟨e0,c0,_,b2,b3,_⟩:=ho
  refine⟨e,c,a1,a2,fun i x kv hx hkv=>?_,a4⟩
  obtain⟨hi,_⟩:=Array.getElem?_eq_some_iff.1 hx
  have hi0:i < e0.size:=by omega
  have:=b3 i e0[i] kv (by simp[hi0]) hkv
  have h3:=a3 i x kv hx hkv
  exact⟨this.1.back G.ext h3.1,this.2.back G.ext h3.2⟩
 |siter s pos=>exact ho2
theorem mkTm_get:∀ (l:List Value) (k:Nat) (tm:T Value) (t:Nat),rdT (mkTm l k tm) t=if k≤t∧t < k+l.length then l.getD (t - k) undef else rdT tm t:=by
 intro l
 induction l with
 |nil=>intro k tm t;simp[mkTm];intro h1 h2;omega
 |cons v l ih=>
  intro k tm t
  simp only[mkTm]
  rw[ih]
  by_cases h1:k+1≤t∧t < k+1+l.length
  ·rw[if_pos h1,if_pos (by simp;omega)]
   rw[show t - k=(t - (k+1))+1 by omega]
   simp
  ·rw[if_neg h1]
   by_cases h2:t=k
   ·subst h2
    rw[if_pos (by simp)]
    simp[rdT,T.get_put]
   ·rw[if_neg (by simp;omega)]
    simp[rdT,T.get_put,h2]
/-- What is told of calls beside the program's own text. -/
def OrcOK(P:Program)(orc:FuncId→Option (List Value→Heap→Option (Value×Heap))):Prop:=
 ∀ f g,orc f=some g→∀ args h v h',g args h=some (v,h')→Keep h h'∧∀ (μ:Loc) (w:World) (args':List Value),Rep μ h w→LRel μ args args'→
  Calls P f ⟨args'⟩ w fun e u=>∃ ν v',e= .returned v'∧Go1 μ h w ν h' u∧VRel ν v v'
/-- The mark of what is written is no part of what a memory says. -/
theorem Rep.wm(R:Rep μ h w)(k:Nat):Rep μ {h with wm:=k} w:=⟨R.live,R.inj,R.fresh,R.bound,R.glob⟩
theorem Go1.wm{ν:Loc}{g:Heap}{u:World}{k j:Nat}(G:Go1 μ {h with wm:=k} w ν g u):Go1 μ h w ν {g with wm:=j} u:=
 ⟨G.ext,G.rep.wm j,G.size,G.own,G.frame,G.os,G.out,G.tape,G.nx,G.low⟩
theorem body_ok(E:EnvOK P env)(C:CallOK P call)(CK:CallKeep call)(D:DrawOK P draw)(DK:DrawKeep draw){L:Nat}{f:FuncId}{fn:Func}{c:Code}(hf:P.funcs[f]? =some fn)(hc:fn.body=some c){args:List Value}{v:Value}{h':Heap}
  (hlen:args.length≤fn.ntmps) (e:bodyA env call (draw call) L fn c args h=some (v,h')):
  Keep h h'∧∀ (μ:Loc) (w:World) (args':List Value),Rep μ h w→LRel μ args args'→Calls P f ⟨args'⟩ w fun e u=>∃ ν v',e= .returned v'∧Go1 μ h w ν h' u∧VRel ν v v':=by
 have main:∀ x s,ecA env call fn.ntmps (draw call fn.ntmps) L c ⟨mkTm args 0 .nil,{h with wm:=h.nx}⟩=some (x,s)→(exOf x= .normal∨exOf x= .ret)→resultsA env fn s=some v→
   (if Nat.ble h.nx s.h.wm && lowV h.nx 5 v then some (v,h) else some (v,{s.h with wm:=min h.wm s.h.wm}))=some (v,h')→
   Keep h h'∧∀ (μ:Loc) (w:World) (args':List Value),Rep μ h w→LRel μ args args'→Calls P f ⟨args'⟩ w fun e u=>∃ ν v',e= .returned v'∧Go1 μ h w ν h' u∧VRel ν v v':=by
  intro x s hec hx hres hfin
  have K:=code_keep CK DK fn.ntmps L c _ _ _ hec
  have hk:h.nx≤s.h.wm→∀ b,b < h.nx→s.h.get b=h.get b:=fun hw b hb=>K.get b hb (Nat.lt_of_lt_of_le hb hw)
  refine⟨?_,fun μ w args' R ra=>?_⟩
  ·split at hfin
   ·simp only[Option.some.injEq,Prod.mk.injEq,true_and] at hfin;subst hfin;exact Keep.refl _
   ·simp only[Option.some.injEq,Prod.mk.injEq,true_and] at hfin;subst hfin
    refine⟨K.nx,by simp;omega,fun b hb hw=>?_,fun b hb e=>K.no b hb e⟩
    have hw':b < min h.wm s.h.wm:=hw
    exact K.get b hb (by omega)
  ·refine calls_of_wp hf hc ?_
   have hal:args.length=args'.length:=ra.1
   have TR0:TRel μ (mkTm args 0 .nil) ((⟨args'⟩:Array Value)++Array.replicate (fn.ntmps - args'.length) undef):=by
    refine⟨R.glob,fun(t:Nat)=>?_⟩
    rw[mkTm_get]
    by_cases ht:t < args.length
    ·rw[if_pos ⟨Nat.zero_le _,by omega⟩]
     have:((⟨args'⟩:Array Value)++Array.replicate (fn.ntmps - args'.length) undef).getD t undef=args'.getD t undef:=by
      simp only[Array.getD_eq_getD_getElem?,List.getD_eq_getElem?_getD]
      rw[Array.getElem?_append_left (by simp;omega)]
      simp
     rw[this]
     simpa using LRel.getD ra VRel.undef t
    ·rw[if_neg (by omega)]
     have:((⟨args'⟩:Array Value)++Array.replicate (fn.ntmps - args'.length) undef).getD t undef=undef:=by
      simp only[Array.getD_eq_getD_getElem?]
      rw[Array.getElem?_append_right (by simp;omega)]
      simp only[Array.getElem?_replicate]
      split <;>rfl
     rw[this]
     exact VRel.undef
   have hsz:fn.ntmps≤((⟨args'⟩:Array Value)++Array.replicate (fn.ntmps - args'.length) undef).size:=by simp;omega
   refine code_ok E C CK D fn.ntmps L c _ x s hec μ w _ (R.wm _) TR0 hsz _ (fun u ν tmps' g t hs=>?_)
   obtain⟨v',hr,rv⟩:=results_ok (P:=P) E g.rep t hres
   have post:∃ ν2 v2,Ending.returned v'= .returned v2∧Go1 μ h w ν2 h' u∧VRel ν2 v v2:=by
    split at hfin
    ·rename_i hcnd
     simp only[Bool.and_eq_true,Nat.ble_eq] at hcnd
     simp only[Option.some.injEq,Prod.mk.injEq,true_and] at hfin;subst hfin
     have g0:Go1 μ h w ν {s.h with wm:=s.h.wm} u:=g.wm
     have gr:=go_restore R g0 (hk hcnd.1)
     exact⟨μ,v',rfl,gr,low_rel g.low rv 5 hcnd.2⟩
    ·simp only[Option.some.injEq,Prod.mk.injEq,true_and] at hfin;subst hfin
     exact⟨ν,v',rfl,g.wm,rv⟩
   rcases hx with hx|hx <;>rw[hx] <;>exact⟨rfl,v',hr,post⟩
 unfold bodyA at e
 split at e
 ·rename_i s hec
  split at e
  ·rename_i v2 hres
   have hv:v2=v:=by
    split at e <;>(simp only[Option.some.injEq,Prod.mk.injEq] at e;exact e.1)
   subst hv
   exact main .normal s hec (.inl rfl) hres e
  ·simp at e
 ·rename_i s hec
  split at e
  ·rename_i v2 hres
   have hv:v2=v:=by
    split at e <;>(simp only[Option.some.injEq,Prod.mk.injEq] at e;exact e.1)
   subst hv
   exact main .ret s hec (.inr rfl) hres e
  ·simp at e
 ·simp at e
theorem run_ok(E:EnvOK P env)(D:DrawOK P draw)(DK:DrawKeep draw){orc:FuncId→Option (List Value→Heap→Option (Value×Heap))}(O:OrcOK P orc)(L:Nat):∀ n,CallOK P (runA env orc draw L n)∧CallKeep (runA env orc draw L n):=by
 have step:∀ n f args h v h',CallOK P (runA env orc draw L n)∧CallKeep (runA env orc draw L n)→runA env orc draw L (n+1) f args h=some (v,h')→
   Keep h h'∧∀ (μ:Loc) (w:World) (args':List Value),Rep μ h w→LRel μ args args'→Calls P f ⟨args'⟩ w fun e u=>∃ ν v',e= .returned v'∧Go1 μ h w ν h' u∧VRel ν v v':=by
  intro n f args h v h' ih e
  simp only[runA] at e
  split at e
  ·rename_i g hg
   exact O f g hg args h v h' e
  ·split at e
   ·rename_i fn hfn
    split at e
    ·rename_i c hc
     split at e
     ·rename_i hl
      exact body_ok E ih.1 ih.2 D DK (E.fn f fn hfn).1 hc (by simpa using hl) e
     ·simp at e
    ·simp at e
   ·simp at e
 intro n
 induction n with
 |zero=>exact⟨fun f args h v h' e=>by simp[runA] at e,fun f args h v h' e=>by simp[runA] at e⟩
 |succ n ih=>exact⟨fun f args h v h' e=>(step n f args h v h' ih e).2,fun f args h v h' e=>(step n f args h v h' ih e).1⟩
end
end Go.PanE
namespace Go.PanE
/-- Are two values the same, as far as can be told at once? -/
def veq:Nat→Value→Value→Bool
 |_,.bool a,.bool b=>a==b
 |_,.int j a,.int k b=>decide (j=k) && decide (a=b)
 |_,.string a,.string b=>decide (a.data.toList=b.data.toList)
 |_,.pointer none,.pointer none=>true
 |_,.pointer (some a),.pointer (some b)=>decide (a=b)
 |_,.slice none l c,.slice none l' c'=>decide (l=l') && decide (c=c')
 |_,.slice (some a) l c,.slice (some b) l' c'=>decide (a=b) && decide (l=l') && decide (c=c')
 |_,.nilIface,.nilIface=>true
 |_,.nilFunc,.nilFunc=>true
 |_,.map a,.map b=>decide (a=b)
 |d+1,.iface t a,.iface u b=>decide (t=u) && veq d a b
 |d+1,.agg a,.agg b=>veqs d a.toList b.toList
 |_,_,_=>false
where veqs (d:Nat):List Value→List Value→Bool
 |[],[]=>true
 |x::l,y::m=>veq d x y && veqs d l m
 |_,_=>false
/-- One operation of the walk: what stands ahead of it, whether it is wanted, its kind, its value, its object. -/
structure Rec where
 o:Oper
 anc:Nat
 want:Bool
 kd:Nat
 v:Value
 id:Nat
 obj:AObj
 tm:T Value
/-- One effect of the walk: its number, the memory ahead of it and behind it, who is born behind it. -/
structure Eff where
 i:Nat
 pre:Heap
 post:Heap
 born:Nat
def bitB(m k:Nat):Bool:=m.testBit k
/-- What stands ahead of an operation. -/
def ancOf(recs:List Rec)(es:List Edge):Nat:=
 es.foldl (fun s e=>if Region.binds .any e then s ||| 2 ^ e.on ||| (match recs[e.on]? with|some r=>r.anc|none=>0) else s) 0
def Rec.isA(r:Rec):Bool:=r.want && Nat.beq r.kd 1
/-- The objects of a mask are born. -/
def bear(mask born:Nat):List Rec→Nat→Heap→Heap
 |[],_,h=>h
 |r::l,k,h=>bear mask born l (k+1) (if r.isA && bitB mask k && !bitB born k then h.put r.id r.obj else h)
/-- Who is born. -/
def bornOf(mask born:Nat):Nat:=born ||| mask
structure DS where
 recs:List Rec
 tm:T Value
 cur:Heap
 born:Nat
 traj:List Eff
 na:Nat
def reserve:Nat→Heap→Heap
 |0,h=>h
 |n+1,h=>reserve n {t:=h.t.drop h.nx,nx:=h.nx+1,wm:=h.wm}
def countA(env:Env):List Oper→Nat
 |[]=>0
 |o::l=>(if Nat.beq (kindOf env o.op) 1 then 1 else 0)+countA env l
section
variable (env:Env) (call:FuncId→List Value→Heap→Option (Value×Heap)) (nt:Nat) (ops:List Oper)
/-- One operation, in the text's order. -/
def walk1(k:Nat)(o:Oper)(d:DS):Option DS:=
 let anc:=ancOf d.recs o.after.toList
 let kd:=kindOf env o.op
 if wantedA ops d.tm o then
  match kd with
  |0=>match opQ env (bear anc d.born d.recs 0 d.cur) d.tm o.op with
   |some v=>match putD nt o.dst v d.tm with
    |some tm=>some {d with recs:=d.recs++[⟨o,anc,true,0,v,0,.map [],d.tm⟩],tm:=tm}
    |none=>none
   |none=>none
  |1=>match opA env d.tm o.op with
   |some (mk,obj)=>match putD nt o.dst (mk d.na) d.tm with
    |some tm=>some {d with recs:=d.recs++[⟨o,anc,true,1,mk d.na,d.na,obj,d.tm⟩],tm:=tm,na:=d.na+1}
    |none=>none
   |none=>none
  |_=>
   let pre:=bear anc d.born d.recs 0 d.cur
   match opE env call pre d.tm o.op with
   |some (v,post)=>match putD nt o.dst v d.tm with
    |some tm=>some {recs:=d.recs++[⟨o,anc,true,2,v,0,.map [],d.tm⟩],tm:=tm,cur:=post,born:=bornOf anc d.born,traj:=d.traj++[⟨k,pre,post,bornOf anc d.born⟩],na:=d.na}
    |none=>none
   |none=>none
 else match putD nt o.dst undef d.tm with
  |some tm=>some {d with recs:=d.recs++[⟨o,anc,false,kd,undef,0,.map [],d.tm⟩],tm:=tm}
  |none=>none
def walk:List Oper→Nat→DS→Option DS
 |[],_,d=>some d
 |o::l,k,d=>match walk1 env call nt ops k o d with
  |some d'=>walk l (k+1) d'
  |none=>none
/-- Does what an operation makes hang on the memory? -/
def usesHeap:Op→Bool
 | .load _ _| .convert _ _ _| .slice _ _ _ _ _| .lookup .. | .call _=>true
 |_=>false
/-- The slots that an operation looks at. -/
def looks(o:Oper):List Tmp:=
 (o.op.operands.toList.filterMap fun| .tmp t=>some t|_=>none)++
 (match o.guard with
  |some (j,_)=>match ops[j]? with
   |some g=>g.dst.toList
   |none=>[]
  |none=>[])
/-- What is written is read in one order alone. -/
def orderOK(recs:List Rec):Bool:=
 let z:=recs.zipIdx
 z.all fun(r,i)=>(r.o.after.toList.all fun e=>!Region.binds .any e || Nat.blt e.on i) &&
  z.all fun(q,k)=>Nat.beq i k || match q.o.dst with
   |none=>true
   |some d=>r.o.dst !=some d && (!(looks ops r.o).contains d || (Nat.blt k i && bitB r.anc k) || (Nat.blt i k && bitB q.anc i))
/-- Effects stand one behind the other. -/
def chainOK(recs:List Rec):List Eff→Bool
 |a::b::l=>(match recs[b.i]? with|some r=>bitB r.anc a.i|none=>false) && chainOK recs (b::l)
 |_=>true
/-- A quiet operation's value is the same wherever it may stand. -/
def quietOK(recs:List Rec)(r:Rec)(i:Nat):List Eff→List Eff→Heap→Nat→Bool
 |done,todo,cur,born=>
  ((done.any fun x=>match recs[x.i]? with|some q=>bitB q.anc i|none=>true) || (todo.any fun x=>bitB r.anc x.i) ||
   (match opQ env (bear r.anc born (recs.take i) 0 cur) r.tm r.o.op with|some v=>veq 3 v r.v|none=>false)) &&
  (match todo with
   |[]=>true
   |x::todo'=>quietOK recs r i (done++[x]) todo' x.post x.born)
/-- The same as a proposition. -/
def quietP(recs:List Rec)(r:Rec)(i:Nat):List Eff→List Eff→Heap→Nat→Prop
 |done,todo,cur,born=>
  (((done.any fun x=>match recs[x.i]? with|some q=>bitB q.anc i|none=>true) || (todo.any fun x=>bitB r.anc x.i))=true∨
   opQ env (bear r.anc born (recs.take i) 0 cur) r.tm r.o.op=some r.v)∧
  (match todo with
   |[]=>True
   |x::todo'=>quietP recs r i (done++[x]) todo' x.post x.born)
def quietAll(recs:List Rec)(traj:List Eff)(h0:Heap):Prop:=
 ∀ (i:Nat) (r:Rec),recs[i]? =some r→r.want=true→r.kd=0→usesHeap r.o.op=true→quietP env recs r i [] traj h0 0
/-- A region whose order is open. -/
def drawA(s:St):Option St:=
 let n:=countA env ops
 let h0:=reserve n s.h
 match walk env call nt ops ops 0 ⟨[],s.tm,h0,0,[],s.h.nx⟩ with
 |some d=>
  if orderOK ops d.recs && chainOK d.recs d.traj && Nat.beq d.na (s.h.nx+n) &&
    (d.recs.zipIdx.all fun(r,i)=>!r.want || !Nat.beq r.kd 0 || !usesHeap r.o.op || quietOK env d.recs r i [] d.traj h0 0) then
   some ⟨d.tm,bear (2 ^ ops.length - 1) d.born d.recs 0 d.cur⟩
  else none
 |none=>none
/-- A region whose order is open; what the quick look does not see, the proposition may say. -/
noncomputable def drawP(s:St):Option St:=
 let n:=countA env ops
 let h0:=reserve n s.h
 match walk env call nt ops ops 0 ⟨[],s.tm,h0,0,[],s.h.nx⟩ with
 |some d=>
  bif orderOK ops d.recs && chainOK d.recs d.traj && Nat.beq d.na (s.h.nx+n) then
   bif (d.recs.zipIdx.all fun(r,i)=>!r.want || !Nat.beq r.kd 0 || !usesHeap r.o.op || quietOK env d.recs r i [] d.traj h0 0) then
    some ⟨d.tm,bear (2 ^ ops.length - 1) d.born d.recs 0 d.cur⟩
   else
    @ite _ (quietAll env d.recs d.traj h0) (Classical.propDecidable _) (some ⟨d.tm,bear (2 ^ ops.length - 1) d.born d.recs 0 d.cur⟩) none
  else none
 |none=>none
end
end Go.PanE
namespace Go.PanE
theorem veq_eq:∀ (d:Nat) (a b:Value),veq d a b=true→a=b:=by
 intro d
 induction d with
 |zero=>
  intro a b e
  unfold veq at e
  split at e <;>first
   |rfl
   |(exfalso;omega)
   |(simp at e;done)
   |(simp only[Bool.and_eq_true,decide_eq_true_eq,beq_iff_eq] at e;simp_all;done)
   |(simp only[decide_eq_true_eq] at e;congr 1;apply ByteArray.ext;apply Array.ext';exact e)
 |succ d ih=>
  have ihs:∀ l m,veq.veqs d l m=true→l=m:=by
   intro l
   induction l with
   |nil=>intro m e;cases m <;>simp[veq.veqs] at e ⊢
   |cons x l ihl=>
    intro m e
    cases m with
    |nil=>simp[veq.veqs] at e
    |cons y m=>
     simp only[veq.veqs,Bool.and_eq_true] at e
     rw[ih x y e.1,ihl m e.2]
  intro a b e
  unfold veq at e
  split at e <;>first
   |rfl
   |(simp at e;done)
   |(simp only[Bool.and_eq_true,decide_eq_true_eq,beq_iff_eq] at e;simp_all;done)
   |(simp only[decide_eq_true_eq] at e;congr 1;apply ByteArray.ext;apply Array.ext';exact e)
   |(simp only[Bool.and_eq_true,decide_eq_true_eq] at e;rename_i h1;simp only[Nat.succ.injEq] at h1;subst h1;rw[e.1,ih _ _ e.2])
   |(rename_i h1;simp only[Nat.succ.injEq] at h1;subst h1;congr 1;apply Array.ext';exact ihs _ _ e)
section
variable {env:Env} {call:CallT} {h h':Heap} {tm tm':T Value}
theorem rds_congr:∀ (l:List Operand),(∀ x,x∈l→rd tm x=rd tm' x)→rds tm l=rds tm' l:=by
 intro l
 induction l with
 |nil=>intro _;rfl
 |cons x l ih=>
  intro hl
  simp only[rds,hl x (by simp),ih (fun y hy=>hl y (by simp[hy]))]
theorem rdParts_congr:∀ (l:List (Nat×Operand)),(∀ x,x∈l.map (·.2)→rd tm x=rd tm' x)→rdParts tm l=rdParts tm' l:=by
 intro l
 induction l with
 |nil=>intro _;rfl
 |cons p l ih=>
  obtain⟨i,x⟩:=p
  intro hl
  simp only[rdParts,hl x (by simp),ih (fun y hy=>hl y (by simp only[List.map_cons,List.mem_cons];exact .inr hy))]
theorem map_congr(o:Option Operand)(hl:∀ x,o=some x→rd tm x=rd tm' x):o.map (rd tm)=o.map (rd tm'):=by
 cases o with
 |none=>rfl
 |some x=>simp[hl x rfl]
theorem opQ_tm{op:Op}(hl:∀ x,x∈op.operands.toList→rd tm x=rd tm' x):opQ env h tm op=opQ env h tm' op:=by
 cases op with
 |call c=>
  obtain⟨cal,az,ts⟩:=c
  have ha:rds tm az.toList=rds tm' az.toList:=rds_congr _ (fun x hx=>hl x (by simp[Op.operands,Call.operands];right;simpa using hx))
  cases cal with
  |builtin b=>cases b <;>simp only[opQ,ha]
  |value f=>rfl
  |invoke r m=>rfl
 |slice t x lo hi mx=>
  have h1:=hl x (by simp[Op.operands])
  have h2:=map_congr lo (tm:=tm) (tm':=tm') (fun y hy=>hl y (by subst hy;simp[Op.operands]))
  have h3:=map_congr hi (tm:=tm) (tm':=tm') (fun y hy=>hl y (by subst hy;simp[Op.operands]))
  have h4:=map_congr mx (tm:=tm) (tm':=tm') (fun y hy=>hl y (by subst hy;simp[Op.operands]))
  simp only[opQ,h1,h2,h3,h4]
 |build t ps=>
  have:=rdParts_congr (tm:=tm) (tm':=tm') ps.toList (fun x hx=>hl x (by simpa[Op.operands] using hx))
  simp only[opQ,this]
 |makeFunc fn fi ca=>
  have h1:=rds_congr (tm:=tm) (tm':=tm') fi.toList (fun x hx=>hl x (by simp[Op.operands];left;simpa using hx))
  have h2:=rds_congr (tm:=tm) (tm':=tm') ca.toList (fun x hx=>hl x (by simp[Op.operands];right;simpa using hx))
  simp only[opQ,h1,h2]
 |pick c a b=>simp only[opQ,hl c (by simp[Op.operands]),hl a (by simp[Op.operands]),hl b (by simp[Op.operands])]
 |binOp o t x y u=>simp only[opQ,hl x (by simp[Op.operands]),hl y (by simp[Op.operands])]
 |indexAddr t x i=>simp only[opQ,hl x (by simp[Op.operands]),hl i (by simp[Op.operands])]
 |index t x i=>simp only[opQ,hl x (by simp[Op.operands]),hl i (by simp[Op.operands])]
 |lookup t x i ok=>simp only[opQ,hl x (by simp[Op.operands]),hl i (by simp[Op.operands])]
 |move x=>simp only[opQ,hl x (by simp[Op.operands])]
 |assign x=>simp only[opQ,hl x (by simp[Op.operands])]
 |load t x=>simp only[opQ,hl x (by simp[Op.operands])]
 |unOp o t x=>simp only[opQ,hl x (by simp[Op.operands])]
 |convert s d x=>simp only[opQ,hl x (by simp[Op.operands])]
 |makeInterface t x=>simp only[opQ,hl x (by simp[Op.operands])]
 |fieldAddr t x f=>simp only[opQ,hl x (by simp[Op.operands])]
 |field t x f=>simp only[opQ,hl x (by simp[Op.operands])]
 |extract x i=>simp only[opQ,hl x (by simp[Op.operands])]
 |nilCheck x=>simp only[opQ,hl x (by simp[Op.operands])]
 |_=>rfl
theorem opQ_heap{op:Op}(hu:usesHeap op=false):opQ env h tm op=opQ env h' tm op:=by
 cases op <;>first|rfl|(simp[usesHeap] at hu;done)
theorem opA_tm{op:Op}(hl:∀ x,x∈op.operands.toList→rd tm x=rd tm' x):opA env tm op=opA env tm' op:=by
 cases op with
 |box t x=>simp only[opA,hl x (by simp[Op.operands])]
 |buildSlice t n ps=>
  have:=rdParts_congr (tm:=tm) (tm':=tm') ps.toList (fun x hx=>hl x (by simpa[Op.operands] using hx))
  simp only[opA,this]
 |makeSlice t l c=>simp only[opA,hl l (by simp[Op.operands]),hl c (by simp[Op.operands])]
 |range t x=>simp only[opA,hl x (by simp[Op.operands])]
 |convert s d x=>simp only[opA,hl x (by simp[Op.operands])]
 |makeMap t r=>cases r <;>rfl
 |_=>rfl
theorem opE_tm{op:Op}(hl:∀ x,x∈op.operands.toList→rd tm x=rd tm' x):opE env call h tm op=opE env call h tm' op:=by
 cases op with
 |store t a x=>simp only[opE,hl a (by simp[Op.operands]),hl x (by simp[Op.operands])]
 |mapUpdate t m k x=>simp only[opE,hl m (by simp[Op.operands]),hl k (by simp[Op.operands]),hl x (by simp[Op.operands])]
 |next it b=>cases b <;>simp only[opE,hl it (by simp[Op.operands])]
 |call c=>
  obtain⟨cal,az,ts⟩:=c
  have ha:rds tm az.toList=rds tm' az.toList:=rds_congr _ (fun x hx=>hl x (by simp[Op.operands,Call.operands];right;simpa using hx))
  cases cal with
  |builtin b=>cases b <;>simp only[opE,ha]
  |value f=>simp only[opE,ha,hl f (by simp[Op.operands,Call.operands])]
  |invoke r m=>rfl
 |_=>rfl
/-! Who stands ahead. -/
theorem foldl_or(recs:List Rec):∀ (es:List Edge) (s k:Nat),(es.foldl (fun s e=>if Region.binds .any e then s ||| 2 ^ e.on ||| (match recs[e.on]? with|some r=>r.anc|none=>0) else s) s).testBit k=true→
  s.testBit k=true∨∃ e,e∈es∧Region.binds .any e=true∧(e.on=k∨∃ r,recs[e.on]? =some r∧r.anc.testBit k=true):=by
 intro es
 induction es with
 |nil=>intro s k h;exact .inl h
 |cons e es ih=>
  intro s k h
  simp only[List.foldl_cons] at h
  rcases ih _ k h with h1|⟨e',he,hb,hr⟩
  ·by_cases hbe:Region.binds .any e=true
   ·rw[if_pos hbe,Nat.testBit_or,Nat.testBit_or,Bool.or_eq_true,Bool.or_eq_true] at h1
    rcases h1 with(h1|h1)|h1
    ·exact .inl h1
    ·rw[Nat.testBit_two_pow] at h1
     exact .inr ⟨e,by simp,hbe,.inl (by simpa using h1)⟩
    ·cases hr:recs[e.on]? with
     |none=>rw[hr] at h1;simp at h1
     |some r=>rw[hr] at h1;exact .inr ⟨e,by simp,hbe,.inr ⟨r,hr,h1⟩⟩
   ·rw[if_neg hbe] at h1;exact .inl h1
  ·exact .inr ⟨e',by simp[he],hb,hr⟩
theorem anc_cases{recs:List Rec}{es:List Edge}{k:Nat}(h:(ancOf recs es).testBit k=true):∃ e,e∈es∧Region.binds .any e=true∧(e.on=k∨∃ r,recs[e.on]? =some r∧r.anc.testBit k=true):=by
 rcases foldl_or recs es 0 k h with h|h
 ·simp at h
 ·exact h
/-! Births. -/
theorem bear_nx(mask born:Nat):∀ (l:List Rec) (k:Nat) (h:Heap),(bear mask born l k h).nx=h.nx:=by
 intro l
 induction l with
 |nil=>intro k h;rfl
 |cons r l ih=>
  intro k h
  simp only[bear]
  rw[ih]
  split <;>rfl
theorem bear_append(mask born:Nat):∀ (l m:List Rec) (k:Nat) (h:Heap),bear mask born (l++m) k h=bear mask born m (k+l.length) (bear mask born l k h):=by
 intro l
 induction l with
 |nil=>intro m k h;rfl
 |cons r l ih=>
  intro m k h
  simp only[List.cons_append,bear,ih,List.length_cons]
  rw[show k+1+l.length=k+(l.length+1) by omega]
theorem bear_off(mask born:Nat):∀ (l:List Rec) (k:Nat) (h:Heap),(∀ j,k≤j→mask.testBit j=false)→bear mask born l k h=h:=by
 intro l
 induction l with
 |nil=>intro k h _;rfl
 |cons r l ih=>
  intro k h hm
  simp only[bear]
  have:bitB mask k=false:=hm k (Nat.le_refl _)
  rw[this]
  simp only[Bool.and_false,Bool.false_and,Bool.false_eq_true,if_false]
  exact ih (k+1) h (fun j hj=>hm j (by omega))
end
end Go.PanE
namespace Go.PanE
def curOf(h:Heap)(b:Nat):List Eff→Heap×Nat
 |[]=>(h,b)
 |x::l=>curOf x.post x.born l
theorem curOf_snoc(h:Heap)(b:Nat):∀ (l:List Eff) (x:Eff),curOf h b (l++[x])=(x.post,x.born):=by
 intro l
 induction l generalizing h b with
 |nil=>intro x;rfl
 |cons y l ih=>intro x;exact ih y.post y.born x
section
variable (env:Env) (call:CallT) (nt:Nat) (ops:List Oper)
/-- One effect of the walk is what it says. -/
def EffOK(recs:List Rec)(cur:Heap)(born:Nat)(x:Eff):Prop:=
 ∃ r,recs[x.i]? =some r∧r.want=true∧2≤r.kd∧x.pre=bear r.anc born (recs.take x.i) 0 cur∧opE env call x.pre r.tm r.o.op=some (r.v,x.post)∧x.born=bornOf r.anc born
def TrajOK(recs:List Rec):Heap→Nat→List Eff→Prop
 |_,_,[]=>True
 |cur,born,x::l=>EffOK env call recs cur born x∧TrajOK recs x.post x.born l
theorem TrajOK.snoc{recs:List Rec}:∀ (l:List Eff) (h:Heap) (b:Nat) (x:Eff),TrajOK env call recs h b l→EffOK env call recs (curOf h b l).1 (curOf h b l).2 x→TrajOK env call recs h b (l++[x]):=by
 intro l
 induction l with
 |nil=>intro h b x _ hx;exact⟨hx,trivial⟩
 |cons y l ih=>intro h b x hl hx;exact⟨hl.1,ih _ _ x hl.2 hx⟩
theorem take_snoc_lt{α:Type}(l:List α)(x:α)(i:Nat)(h:i≤l.length):(l++[x]).take i=l.take i:=by
 rw[List.take_append_of_le_length h]
theorem get_snoc{α:Type}{l:List α}{x:α}{i:Nat}{y:α}(h:(l++[x])[i]? =some y):(i < l.length∧l[i]? =some y)∨(i=l.length∧y=x):=by
 rcases Nat.lt_trichotomy i l.length with hl|hl|hl
 ·rw[List.getElem?_append_left hl] at h;exact .inl ⟨hl,h⟩
 ·subst hl;simp at h;exact .inr ⟨rfl,h.symm⟩
 ·rw[List.getElem?_eq_none (by simp;omega)] at h;simp at h
theorem get_snoc_of{α:Type}{l:List α}{x:α}{i:Nat}{y:α}(h:l[i]? =some y):(l++[x])[i]? =some y:=by
 obtain⟨hi,_⟩:=List.getElem?_eq_some_iff.1 h
 rw[List.getElem?_append_left hi];exact h
theorem TrajOK.mono{recs:List Rec}{r:Rec}:∀ (l:List Eff) (h:Heap) (b:Nat),(∀ x∈l,x.i < recs.length)→TrajOK env call recs h b l→TrajOK env call (recs++[r]) h b l:=by
 intro l
 induction l with
 |nil=>intro h b _ _;trivial
 |cons y l ih=>
  intro h b hx hl
  obtain⟨⟨q,h1,h2,h3,h4,h5,h6⟩,hr⟩:=hl
  refine⟨⟨q,get_snoc_of h1,h2,h3,?_,h5,h6⟩,ih _ _ (fun x hm=>hx x (by simp[hm])) hr⟩
  rw[take_snoc_lt _ _ _ (Nat.le_of_lt (hx y (by simp)))]
  exact h4
/-- What the records say. -/
structure WInv(base:Nat)(tm0:T Value)(h0:Heap)(k:Nat)(d:DS):Prop where
 len:d.recs.length=k
 op:∀ (i:Nat) (r:Rec),d.recs[i]? =some r→ops[i]? =some r.o
 anc:∀ (i:Nat) (r:Rec),d.recs[i]? =some r→r.anc=ancOf (d.recs.take i) r.o.after.toList
 tmd:∀ (t:Nat),(∀ (i:Nat) (r:Rec),d.recs[i]? =some r→r.o.dst=some t→rdT d.tm t=r.v)∧((∀ (i:Nat) (r:Rec),d.recs[i]? =some r→r.o.dst≠some t)→rdT d.tm t=rdT tm0 t)
 tmr:∀ (i:Nat) (r:Rec),d.recs[i]? =some r→∀ (t:Nat),(∀ (j:Nat) (q:Rec),j < i→d.recs[j]? =some q→q.o.dst=some t→rdT r.tm t=q.v)∧((∀ (j:Nat) (q:Rec),j < i→d.recs[j]? =some q→q.o.dst≠some t)→rdT r.tm t=rdT tm0 t)
 want:∀ (i:Nat) (r:Rec),d.recs[i]? =some r→r.want=wantedA ops r.tm r.o
 off:∀ (i:Nat) (r:Rec),d.recs[i]? =some r→r.want=false→r.v=undef
 q:∀ (i:Nat) (r:Rec),d.recs[i]? =some r→r.want=true→r.kd=0→∃ h:Heap,opQ env h r.tm r.o.op=some r.v
 a:∀ (i:Nat) (r:Rec),d.recs[i]? =some r→r.want=true→r.kd=1→base≤r.id∧r.id < d.na∧∃ mk,opA env r.tm r.o.op=some (mk,r.obj)∧r.v=mk r.id
 ainj:∀ (i j:Nat) (r q:Rec),d.recs[i]? =some r→d.recs[j]? =some q→r.isA=true→q.isA=true→r.id=q.id→i=j
 dst:∀ (i:Nat) (r:Rec) (t:Nat),d.recs[i]? =some r→r.o.dst=some t→t < nt
 e:∀ (i:Nat) (r:Rec),d.recs[i]? =some r→r.want=true→2≤r.kd→∃ x:Eff,x∈d.traj∧x.i=i
 traj:TrajOK env call d.recs h0 0 d.traj
 cur:curOf h0 0 d.traj=(d.cur,d.born)
 tlt:∀ x:Eff,x∈d.traj→x.i < k
 na:base≤d.na
theorem putD_get{nt:Nat}{dst:Option Tmp}{v:Value}{tm tm':T Value}(e:putD nt dst v tm=some tm'):(∀ t,dst=some t→rdT tm' t=v∧t < nt)∧∀ t,dst≠some t→rdT tm' t=rdT tm t:=by
 unfold putD at e
 split at e
 ·simp only[Option.some.injEq] at e;subst e
  exact⟨fun t h=>by simp at h,fun _ _=>rfl⟩
 ·rename_i d
  split at e
  ·rename_i hd
   rw[Nat.blt_eq] at hd
   simp only[Option.some.injEq] at e;subst e
   refine⟨fun t h=>?_,fun t h=>?_⟩
   ·simp only[Option.some.injEq] at h;subst h
    exact⟨by simp[rdT,T.get_put],hd⟩
   ·simp only[ne_eq,Option.some.injEq] at h
    simp only[rdT,T.get_put]
    rw[if_neg (fun h2=>h h2.symm)]
  ·simp at e
/-- One more record. -/
theorem WInv.snoc{base:Nat}{tm0:T Value}{h0:Heap}{k:Nat}{d:DS}(W:WInv env call nt ops base tm0 h0 k d)(hD:∀ (i j:Nat) (o q:Oper) (t:Nat),ops[i]? =some o→ops[j]? =some q→o.dst=some t→q.dst=some t→i=j)
  {r:Rec} {tm':T Value} {cur:Heap} {born na:Nat} {tr:List Eff} (ho:ops[k]? =some r.o) (hanc:r.anc=ancOf d.recs r.o.after.toList) (htm:r.tm=d.tm) (hput:putD nt r.o.dst r.v d.tm=some tm')
  (hw:r.want=wantedA ops d.tm r.o) (hoff:r.want=false→r.v=undef) (hq:r.want=true→r.kd=0→∃ h,opQ env h d.tm r.o.op=some r.v)
  (ha:r.want=true→r.kd=1→r.id=d.na∧na=d.na+1∧∃ mk,opA env d.tm r.o.op=some (mk,r.obj)∧r.v=mk r.id) (hna:d.na≤na)
  (htr:(tr=[]∧(r.want=true→r.kd < 2)∧cur=d.cur∧born=d.born)∨∃ x,tr=[x]∧x.i=k∧EffOK env call (d.recs++[r]) d.cur d.born x∧cur=x.post∧born=x.born):
  WInv env call nt ops base tm0 h0 (k+1) ⟨d.recs++[r],tm',cur,born,d.traj++tr,na⟩:=by
 obtain⟨pd1,pd2⟩:=putD_get hput
 have hlen:=W.len
 have hnew:∀ (i:Nat) (q:Rec) (t:Nat),d.recs[i]? =some q→q.o.dst=some t→r.o.dst≠some t:=by
  intro i q t hi hqt hrt
  have h1:=W.op i q hi
  have:=hD i k q.o r.o t h1 ho hqt hrt
  obtain⟨hlt,_⟩:=List.getElem?_eq_some_iff.1 hi
  omega
 refine⟨by simp[hlen],?_,?_,?_,?_,?_,?_,?_,?_,?_,?_,?_,?_,?_,?_,Nat.le_trans W.na hna⟩
 ·intro i q hi
  rcases get_snoc hi with⟨_,h⟩|⟨h,rfl⟩
  ·exact W.op i q h
  ·rw[h,hlen];exact ho
 ·intro i q hi
  rcases get_snoc hi with⟨hl,h⟩|⟨h,rfl⟩
  ·rw[take_snoc_lt _ _ _ (by omega)];exact W.anc i q h
  ·rw[take_snoc_lt _ _ _ (by omega),h,List.take_length];exact hanc
 ·intro t
  refine⟨fun i q hi hqt=>?_,fun hno=>?_⟩
  ·rcases get_snoc hi with⟨_,h⟩|⟨h,rfl⟩
   ·show rdT tm' t=q.v
    rw[pd2 t (hnew i q t h hqt)]
    exact(W.tmd t).1 i q h hqt
   ·exact(pd1 t hqt).1
  ·show rdT tm' t=rdT tm0 t
   rw[pd2 t (hno d.recs.length r (by simp))]
   exact(W.tmd t).2 (fun i q hi=>hno i q (get_snoc_of hi))
 ·intro i q hi t
  rcases get_snoc hi with⟨hl,h⟩|⟨h,rfl⟩
  ·refine⟨fun j p hj hp hpt=>?_,fun hno=>?_⟩
   ·rcases get_snoc hp with⟨_,h2⟩|⟨h2,_⟩
    ·exact(W.tmr i q h t).1 j p hj h2 hpt
    ·omega
   ·exact(W.tmr i q h t).2 (fun j p hj hp=>hno j p hj (get_snoc_of hp))
  ·rw[htm]
   refine⟨fun j p hj hp hpt=>?_,fun hno=>?_⟩
   ·rcases get_snoc hp with⟨_,h2⟩|⟨h2,_⟩
    ·exact(W.tmd t).1 j p h2 hpt
    ·omega
   ·exact(W.tmd t).2 (fun j p hp=>hno j p (by obtain⟨hl,_⟩:=List.getElem?_eq_some_iff.1 hp;omega) (get_snoc_of hp))
 ·intro i q hi
  rcases get_snoc hi with⟨_,h⟩|⟨h,rfl⟩
  ·exact W.want i q h
  ·rw[htm];exact hw
 ·intro i q hi
  rcases get_snoc hi with⟨_,h⟩|⟨h,rfl⟩
  ·exact W.off i q h
  ·exact hoff
 ·intro i q hi
  rcases get_snoc hi with⟨_,h⟩|⟨h,rfl⟩
  ·exact W.q i q h
  ·rw[htm];exact hq
 ·intro i q hi h1 h2
  rcases get_snoc hi with⟨_,h⟩|⟨h,rfl⟩
  ·obtain⟨a1,a2,a3⟩:=W.a i q h h1 h2
   exact⟨a1,Nat.lt_of_lt_of_le a2 hna,a3⟩
  ·obtain⟨a1,a2,a3⟩:=ha h1 h2
   rw[htm]
   exact⟨by rw[a1];exact W.na,by simp only;omega,a3⟩
 ·intro i j q p hi hj hqa hpa hid
  rcases get_snoc hi with⟨h0,h⟩|⟨h,rfl⟩ <;>rcases get_snoc hj with⟨h0',h'⟩|⟨h',rfl⟩
  ·exact W.ainj i j q p h h' hqa hpa hid
  ·exfalso
   simp only[Rec.isA,Bool.and_eq_true] at hqa hpa
   have b1:=W.a i q h hqa.1 (Nat.eq_of_beq_eq_true hqa.2)
   have b2:=ha hpa.1 (Nat.eq_of_beq_eq_true hpa.2)
   omega
  ·exfalso
   simp only[Rec.isA,Bool.and_eq_true] at hqa hpa
   have b1:=W.a j p h' hpa.1 (Nat.eq_of_beq_eq_true hpa.2)
   have b2:=ha hqa.1 (Nat.eq_of_beq_eq_true hqa.2)
   omega
  ·omega
 ·intro i q t hi hqt
  rcases get_snoc hi with⟨_,h⟩|⟨h,rfl⟩
  ·exact W.dst i q t h hqt
  ·exact(pd1 t hqt).2
 ·intro i q hi h1 h2
  rcases get_snoc hi with⟨_,h⟩|⟨h,rfl⟩
  ·obtain⟨x,hx,hxi⟩:=W.e i q h h1 h2
   exact⟨x,by simp[hx],hxi⟩
  ·rcases htr with⟨_,h3,_⟩|⟨x,rfl,hx,_⟩
   ·have:=h3 h1;omega
   ·exact⟨x,by simp,by omega⟩
 ·have hm:=TrajOK.mono env call (r:=r) d.traj h0 0 (fun x hx=>by rw[hlen];exact W.tlt x hx) W.traj
  rcases htr with⟨rfl,_⟩|⟨x,rfl,hx,he,_⟩
  ·simpa using hm
  ·exact TrajOK.snoc env call d.traj h0 0 x hm (by rw[W.cur];exact he)
 ·rcases htr with⟨rfl,_,h3,h4⟩|⟨x,rfl,_,_,h3,h4⟩
  ·simp[W.cur,h3,h4]
  ·rw[curOf_snoc];simp[h3,h4]
 ·intro x hx
  rcases htr with⟨rfl,_⟩|⟨y,rfl,hy,_⟩
  ·simp at hx;have:=W.tlt x hx;omega
  ·simp at hx
   rcases hx with hx|rfl
   ·have:=W.tlt x hx;omega
   ·omega
theorem walk1_inv{base:Nat}{tm0:T Value}{h0:Heap}{k:Nat}{o:Oper}{d d':DS}(W:WInv env call nt ops base tm0 h0 k d)(hD:∀ (i j:Nat) (o q:Oper) (t:Nat),ops[i]? =some o→ops[j]? =some q→o.dst=some t→q.dst=some t→i=j)
  (ho:ops[k]? =some o) (e:walk1 env call nt ops k o d=some d'):WInv env call nt ops base tm0 h0 (k+1) d':=by
 unfold walk1 at e
 simp only at e
 split at e
 ·rename_i hw
  split at e
  ·rename_i hk
   split at e
   ·rename_i v hv
    split at e
    ·rename_i tm hp
     simp only[Option.some.injEq] at e;subst e
     have:=WInv.snoc env call nt ops W (r:=⟨o,ancOf d.recs o.after.toList,true,0,v,0,.map [],d.tm⟩) (tr:=[]) (cur:=d.cur) (born:=d.born) (na:=d.na) hD ho rfl rfl hp hw.symm (fun h=>by simp at h) (fun _ _=>⟨_,hv⟩) (fun _ h=>by simp at h) (Nat.le_refl _) (.inl ⟨rfl,fun _=>by simp,rfl,rfl⟩)
     simpa using this
    ·simp at e
   ·simp at e
  ·rename_i hk
   split at e
   ·rename_i mk obj hv
    split at e
    ·rename_i tm hp
     simp only[Option.some.injEq] at e;subst e
     have:=WInv.snoc env call nt ops W (r:=⟨o,ancOf d.recs o.after.toList,true,1,mk d.na,d.na,obj,d.tm⟩) (tr:=[]) (cur:=d.cur) (born:=d.born) (na:=d.na+1) hD ho rfl rfl hp hw.symm (fun h=>by simp at h) (fun _ h=>by simp at h) (fun _ _=>⟨rfl,rfl,mk,hv,rfl⟩) (Nat.le_succ _) (.inl ⟨rfl,fun _=>by simp,rfl,rfl⟩)
     simpa using this
    ·simp at e
   ·simp at e
  ·split at e
   ·rename_i v post hv
    split at e
    ·rename_i tm hp
     simp only[Option.some.injEq] at e;subst e
     refine WInv.snoc env call nt ops W (r:=⟨o,ancOf d.recs o.after.toList,true,2,v,0,.map [],d.tm⟩) hD ho rfl rfl hp hw.symm (fun h=>by simp at h) (fun _ h=>by simp at h) (fun _ h=>by simp at h) (Nat.le_refl _) (.inr ⟨_,rfl,rfl,?_,rfl,rfl⟩)
     refine⟨⟨o,ancOf d.recs o.after.toList,true,2,v,0,.map [],d.tm⟩,by show(d.recs++[_])[k]? =_;rw[← W.len];simp,rfl,Nat.le_refl _,?_,hv,rfl⟩
     simp only
     rw[take_snoc_lt _ _ _ (by rw[W.len];exact Nat.le_refl _),← W.len,List.take_length]
    ·simp at e
   ·simp at e
 ·rename_i hw
  split at e
  ·rename_i tm hp
   simp only[Option.some.injEq] at e;subst e
   have:=WInv.snoc env call nt ops W (r:=⟨o,ancOf d.recs o.after.toList,false,kindOf env o.op,undef,0,.map [],d.tm⟩) (tr:=[]) (cur:=d.cur) (born:=d.born) (na:=d.na) hD ho rfl rfl hp (by simpa using hw) (fun _=>rfl) (fun h=>by simp at h) (fun h=>by simp at h) (Nat.le_refl _) (.inl ⟨rfl,fun h=>by simp at h,rfl,rfl⟩)
   simpa using this
  ·simp at e
theorem walk_inv{base:Nat}{tm0:T Value}{h0:Heap}(hD:∀ (i j:Nat) (o q:Oper) (t:Nat),ops[i]? =some o→ops[j]? =some q→o.dst=some t→q.dst=some t→i=j):∀ (l:List Oper) (k:Nat) (d d':DS),ops.drop k=l→
  WInv env call nt ops base tm0 h0 k d→walk env call nt ops l k d=some d'→WInv env call nt ops base tm0 h0 (k+l.length) d':=by
 intro l
 induction l with
 |nil=>intro k d d' _ W e;simp only[walk,Option.some.injEq] at e;subst e;exact W
 |cons o l ih=>
  intro k d d' hd W e
  simp only[walk] at e
  split at e
  ·rename_i d1 h1
   have ho:ops[k]? =some o:=by
    have:=congrArg (fun l=>l[0]?) hd
    simpa using this
   have hd':ops.drop (k+1)=l:=by
    have:=congrArg List.tail hd
    simpa using this
   have:=ih (k+1) d1 d' hd' (walk1_inv env call nt ops W hD ho h1) e
   simp only[List.length_cons]
   rw[show k+(l.length+1)=k+1+l.length by omega]
   exact this
  ·simp at e
theorem walk_start(base:Nat)(tm0:T Value)(h0:Heap):WInv env call nt ops base tm0 h0 0 ⟨[],tm0,h0,0,[],base⟩:=by
 refine⟨rfl,?_,?_,fun t=>⟨?_,fun _=>rfl⟩,?_,?_,?_,?_,?_,?_,?_,?_,trivial,rfl,?_,Nat.le_refl _⟩ <;>simp
end
end Go.PanE
