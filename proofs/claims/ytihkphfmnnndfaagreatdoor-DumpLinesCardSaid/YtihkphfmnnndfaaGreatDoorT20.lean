/-
 Part 20 of the proof of Rows.DumpLinesCardSaid. No conditions.
-/
import Derived.Test.YtihkphfmnnndfaaGreatDoorT19
namespace Go.PanE
open Go.Proofs
abbrev iv(x:Int):Value:=.int .i64 x
abbrev pv(b o:Nat):Value:=.pointer (some ⟨b,o,none⟩)
abbrev sv(b o n c:Nat):Value:=.slice (some ⟨b,o,none⟩) n c
abbrev al(h:Heap)(t:TypeId)(cs:Vs):Heap:=h.alloc (.row t cs 0 false)
abbrev pt(h:Heap)(b:Nat)(t:TypeId)(cs:Vs):Heap:=h.put b (.row t cs 0 false)
abbrev LD(h:Heap)(t:TypeId)(b o:Nat)(v:Value):Prop:=ui En h t ⟨b,o,none⟩=some v
abbrev SV(h:Heap)(t:TypeId)(b o:Nat)(v:Value)(g:Heap):Prop:=stF (ym En h t ⟨b,o,none⟩ v)=some (undef,g)
abbrev WR(x:Int):Prop:=some (Value.int .i64 (IntKind.i64.wrap x))=some (.int .i64 x)
abbrev Fn(n:Nat)(f:FuncId)(args:Vs)(h:Heap)(v:Value)(H:Heap):Prop:=RD (n+1) f args h=some (zy h v H)
abbrev Pu(n:Nat)(f:FuncId)(args:Vs)(v:Value)(h:Heap):Prop:=RD n f args h=some (v,h)
abbrev Bd(n nt:Nat)(p:List Nat)(f:Func)(l:List (Nat×Value))(h:Heap)(x:Ex)(l':List (Nat×Value))(H:Heap):Prop:=wC En (RD n) nt 18446744073709551616 (sub p (zp f)) l h x l' H
abbrev Lf(n nt:Nat)(p:List Nat)(f:Func)(o:List (Nat×Value))(h:Heap)(x:Ex)(l:List (Nat×Value))(H:Heap):Prop:=zek En (RD n) nt 18446744073709551616 (sub p (zp f)) (zbt o) h x l H
abbrev bqS(a b:BA):Bool:=a.data.toList==b.data.toList
abbrev tl0(b:Heap)(w n:Nat)(H:Heap):Prop:=(∀ c,c < b.nx→H.get c=b.get c)∧H.nx=n∧H.wm≤w
abbrev tl1(b:Heap)(w a n:Nat)(H:Heap):Prop:=(∀ c,c < b.nx→c≠a→H.get c=b.get c)∧H.nx=n∧H.wm≤w∧H.wm≤a
abbrev tl2(b:Heap)(w a a2 n:Nat)(H:Heap):Prop:=(∀ c,c < b.nx→c≠a→c≠a2→H.get c=b.get c)∧H.nx=n∧H.wm≤w∧H.wm≤a∧H.wm≤a2
abbrev tw0(b:Heap)(w n:Nat)(H:Heap)(W:Prop):Prop:=(∀ c,c < b.nx→H.get c=b.get c)∧H.nx=n∧H.wm≤w∧W
abbrev tw1(b:Heap)(w a n:Nat)(H:Heap)(W:Prop):Prop:=(∀ c,c < b.nx→c≠a→H.get c=b.get c)∧H.nx=n∧H.wm≤w∧H.wm≤a∧W
abbrev tw2(b:Heap)(w a a2 n:Nat)(H:Heap)(W:Prop):Prop:=(∀ c,c < b.nx→c≠a→c≠a2→H.get c=b.get c)∧H.nx=n∧H.wm≤w∧H.wm≤a∧H.wm≤a2∧W
theorem gA{h:Heap}{t:TypeId}{cs:Vs}{c:Nat}{o:AObj}(e:h.get c=some o):(al h t cs).get c=some o:=(zm h _ (za e)).trans e
theorem gN{h:Heap}{t:TypeId}{cs:Vs}:(al h t cs).get h.nx=some (.row t cs 0 false):=zb h _
theorem gP{h:Heap}{b:Nat}{t:TypeId}{cs:Vs}(hb:b < h.nx):(pt h b t cs).get b=some (.row t cs 0 false):=zi h b _ hb
theorem gO{h:Heap}{b c:Nat}{t:TypeId}{cs:Vs}{o:AObj}(e:h.get c=some o)(hb:b < h.nx)(n:c≠b):(pt h b t cs).get c=some o:=(zf h b c _ hb n).trans e
theorem gR{h:Heap}{n c:Nat}{o:AObj}(e:h.get c=some o):(zd n h).get c=some o:=(wJ n h (za e)).trans e
section
variable {env:Env} {t e:TypeId} {s b o len cap i:Nat} {k:IntKind}
theorem zom(hu:env.und t=some (.slice e))(hs:env.size e=some s)(hi:i+1 < len):
  wd env t (.slice (some ⟨b,o,none⟩) len cap) (.int k ((i:Int)+1))=some (.pointer (some ⟨b,o+(i+1) * s,none⟩)):=
 qj (i:=i+1) hu hs hi
theorem zlN(hu:env.und t=some (.slice e))(hs:env.size e=some s)(hi:i+1+1 < len):
  wd env t (.slice (some ⟨b,o,none⟩) len cap) (.int k (((i:Int)+1)+1))=some (.pointer (some ⟨b,o+(i+1+1) * s,none⟩)):=
 qj (i:=i+1+1) hu hs hi
theorem zon(hu:env.und t=some (.slice e))(hs:env.size e=some s)(hi:i < len):
  wd env t (.slice (some ⟨b,o,none⟩) len cap) (.int k (((i:Int)+1) - 1))=some (.pointer (some ⟨b,o+i * s,none⟩)):=by
 rw[Int.add_sub_cancel]
 exact qj hu hs hi
end
structure TF where
 P:Prop
 pf:P
theorem zgX:∀ l:List TF,wG (l.map fun x=>x.P)
 |[]=>trivial
 |x::l=>⟨x.pf,zgX l⟩
structure KD where
 b:Nat
 t:TypeId
 cs:Vs
 es:Nat
 ro:Bool
 xs:List (Nat×Value)
 ys:List (Nat×Vs)
 nw:Bool
 dn:Bool
structure KD.OK(x:KD)(h base:Heap)(pu:List Nat):Prop where
 g:h.get x.b=some (.row x.t x.cs x.es x.ro)
 rx:∀ e∈x.xs,(x.cs.drop e.1).head? =some e.2
 ry:∀ e∈x.ys,(x.cs.drop e.1).take e.2.length=e.2
 rn:x.nw=true→base.nx≤x.b
 rd:x.dn=true→x.b∈pu∨base.nx≤x.b
structure KS where
 h:Heap
 l:List KD
 base:Heap
 pu:List Nat
 k:Nat
 rs:List Nat
 ok:∀ x∈l,x.OK h base pu
 nd:(l.map fun x=>x.b).Nodup
 fr:∀ c,c < base.nx→(∀ x∈pu,c≠x)→h.get c=base.get c
 nx:h.nx=base.nx+k
 wm:h.wm≤base.wm
 wp:∀ x∈pu,h.wm≤x
 rk:∀ r∈rs,base.nx≤r∧r < h.nx∧∀ x∈l,x.b≠r
 rn:rs.Nodup
theorem KS.lt(S:KS){x:KD}(hx:x∈S.l):x.b < S.h.nx:=za (S.ok x hx).g
theorem wk{α:Type}{P:α→Prop}:∀ e∈([]:List α),P e:=fun _ h=>by cases h
def KS.al(S:KS)(t:TypeId)(cs:Vs)(es:Nat)(ro:Bool):KS where
 h:=S.h.alloc (.row t cs es ro)
 l:=S.l++[⟨S.h.nx,t,cs,es,ro,[],[],true,false⟩]
 base:=S.base
 pu:=S.pu
 k:=S.k+1
 rs:=S.rs
 ok:=fun x hx=>by
  rcases List.mem_append.1 hx with hx|hx
  ·have o:=S.ok x hx
   exact⟨(zm _ _ (za o.g)).trans o.g,o.rx,o.ry,o.rn,o.rd⟩
  ·rw[List.mem_singleton] at hx
   subst hx
   exact⟨zb _ _,wk,wk,fun _=>by show S.base.nx≤S.h.nx;have:=S.nx;omega,(fun q=>by cases q)⟩
 nd:=by
  rw[List.map_append,List.nodup_append]
  refine⟨S.nd,by simp,fun a ha b hb=>?_⟩
  obtain⟨x,hx,rfl⟩:=List.mem_map.1 ha
  have:=S.lt hx
  simp only[List.map_cons,List.map_nil,List.mem_singleton] at hb
  subst hb
  omega
 fr:=fun c hc hp=>(zm _ _ (by have:=S.nx;omega)).trans (S.fr c hc hp)
 nx:=by show S.h.nx+1=_;have:=S.nx;omega
 wm:=S.wm
 wp:=S.wp
 rk:=fun r hr=>by
  obtain⟨h1,h2,h3⟩:=S.rk r hr
  refine⟨h1,by show r < S.h.nx+1;omega,fun x hx=>?_⟩
  rcases List.mem_append.1 hx with hx|hx
  ·exact h3 x hx
  ·rw[List.mem_singleton] at hx
   subst hx
   show S.h.nx≠r
   omega
 rn:=S.rn
def KS.alo(S:KS)(o:AObj):KS where
 h:=S.h.alloc o
 l:=S.l
 base:=S.base
 pu:=S.pu
 k:=S.k+1
 rs:=S.rs
 ok:=fun x hx=>⟨(zm _ _ (S.lt hx)).trans (S.ok x hx).g,(S.ok x hx).rx,(S.ok x hx).ry,(S.ok x hx).rn,(S.ok x hx).rd⟩
 nd:=S.nd
 fr:=fun c hc hp=>(zm _ _ (by have:=S.nx;omega)).trans (S.fr c hc hp)
 nx:=by show S.h.nx+1=_;have:=S.nx;omega
 wm:=S.wm
 wp:=S.wp
 rk:=fun r hr=>⟨(S.rk r hr).1,Nat.lt_succ_of_lt (S.rk r hr).2.1,(S.rk r hr).2.2⟩
 rn:=S.rn
def rsv(b:Nat):Nat→List Nat
 |0=>[]
 |n+1=>b::rsv (b+1) n
theorem zcA:∀ {n b r:Nat},r∈rsv b n→b≤r∧r < b+n
 |0,b,r,h=>by cases h
 |n+1,b,r,h=>by
  rcases List.mem_cons.1 h with rfl|h
  ·omega
  ·have:=zcA h;omega
theorem zfa:∀ (n b:Nat),(rsv b n).Nodup
 |0,b=>List.nodup_nil
 |n+1,b=>List.nodup_cons.2 ⟨fun h=>by have:=zcA h;omega,zfa n (b+1)⟩
def KS.res(S:KS)(n:Nat):KS where
 h:=zd n S.h
 l:=S.l
 base:=S.base
 pu:=S.pu
 k:=S.k+n
 rs:=S.rs++rsv S.h.nx n
 ok:=fun x hx=>⟨gR (S.ok x hx).g,(S.ok x hx).rx,(S.ok x hx).ry,(S.ok x hx).rn,(S.ok x hx).rd⟩
 nd:=S.nd
 fr:=fun c hc hp=>(wJ _ _ (by have:=S.nx;omega)).trans (S.fr c hc hp)
 nx:=by rw[zK];have:=S.nx;omega
 wm:=by rw[zJ];exact S.wm
 wp:=fun x hx=>by rw[zJ];exact S.wp x hx
 rk:=fun r hr=>by
  rw[zK]
  rcases List.mem_append.1 hr with hr|hr
  ·obtain⟨h1,h2,h3⟩:=S.rk r hr
   exact⟨h1,by omega,h3⟩
  ·have h1:=zcA hr
   have h2:=S.nx
   refine⟨by omega,by omega,fun x hx=>?_⟩
   have:=S.lt hx
   omega
 rn:=by
  rw[List.nodup_append]
  refine⟨S.rn,zfa _ _,fun a ha b hb=>?_⟩
  have h1:=(S.rk a ha).2.1
  have h2:=zcA hb
  omega
def KS.bear(S:KS)(i r:Nat)(e:S.rs[i]? =some r)(t:TypeId)(cs:Vs)(es:Nat)(ro:Bool):KS where
 h:=S.h.put r (.row t cs es ro)
 l:=S.l++[⟨r,t,cs,es,ro,[],[],true,false⟩]
 base:=S.base
 pu:=S.pu
 k:=S.k
 rs:=S.rs.eraseIdx i
 ok:=fun x hx=>by
  obtain⟨h1,h2,h3⟩:=S.rk r (List.mem_of_getElem? e)
  rcases List.mem_append.1 hx with hx|hx
  ·have o:=S.ok x hx
   exact⟨(zf _ _ _ _ h2 (h3 x hx)).trans o.g,o.rx,o.ry,o.rn,o.rd⟩
  ·rw[List.mem_singleton] at hx
   subst hx
   exact⟨zi _ _ _ h2,wk,wk,fun _=>h1,(fun q=>by cases q)⟩
 nd:=by
  rw[List.map_append,List.nodup_append]
  refine⟨S.nd,by simp,fun a ha b hb=>?_⟩
  obtain⟨x,hx,rfl⟩:=List.mem_map.1 ha
  simp only[List.map_cons,List.map_nil,List.mem_singleton] at hb
  rw[hb]
  exact(S.rk r (List.mem_of_getElem? e)).2.2 x hx
 fr:=fun c hc hp=>by
  obtain⟨h1,h2,h3⟩:=S.rk r (List.mem_of_getElem? e)
  exact(zf _ _ _ _ h2 (by omega)).trans (S.fr c hc hp)
 nx:=S.nx
 wm:=by rw[ze];have:=S.wm;omega
 wp:=fun x hx=>by rw[ze];have:=S.wp x hx;omega
 rk:=fun q hq=>by
  obtain⟨j,hj,e2⟩:=List.mem_eraseIdx_iff_getElem?.1 hq
  obtain⟨h1,h2,h3⟩:=S.rk q (List.mem_of_getElem? e2)
  refine⟨h1,h2,fun x hx=>?_⟩
  rcases List.mem_append.1 hx with hx|hx
  ·exact h3 x hx
  ·rw[List.mem_singleton] at hx
   subst hx
   intro h
   have h:r=q:=h
   rw[← h] at e2
   exact hj ((List.getElem?_inj (List.getElem?_eq_some_iff.1 e2).1 S.rn).1 (e2.trans e.symm))
 rn:=(List.eraseIdx_sublist _ _).nodup S.rn
def KS.put(S:KS)(i:Nat)(x:KD)(e:S.l[i]? =some x)(cs:Vs):KS where
 h:=pt S.h x.b x.t cs
 l:=S.l.set i ⟨x.b,x.t,cs,0,false,[],[],x.nw,true⟩
 base:=S.base
 pu:=bif x.nw || x.dn then S.pu else x.b::S.pu
 k:=S.k
 rs:=S.rs
 ok:=fun y hy=>by
  have hi:i < S.l.length:=(List.getElem?_eq_some_iff.1 e).1
  have hx:=S.ok x (List.mem_of_getElem? e)
  have hlt:=S.lt (List.mem_of_getElem? e)
  have sub:∀ c,c∈S.pu→c∈(bif x.nw || x.dn then S.pu else x.b::S.pu):=fun c hc=>by
   cases x.nw || x.dn
   ·exact List.mem_cons_of_mem _ hc
   ·exact hc
  obtain⟨j,hj⟩:=List.getElem?_of_mem hy
  rw[List.getElem?_set] at hj
  by_cases hij:i=j
  ·rw[if_pos hij,if_pos (by omega)] at hj
   cases hj
   refine⟨gP hlt,wk,wk,hx.rn,fun _=>?_⟩
   show x.b∈(bif x.nw || x.dn then S.pu else x.b::S.pu)∨_
   cases hn:x.nw with
   |true=>exact .inr (hx.rn hn)
   |false=>
    cases hd:x.dn with
    |true=>exact hx.rd hd
    |false=>exact .inl (List.mem_cons_self ..)
  ·rw[if_neg hij] at hj
   have hy':=List.mem_of_getElem? hj
   have o:=S.ok y hy'
   refine⟨gO o.g hlt (fun hb=>hij ?_),o.rx,o.ry,o.rn,fun h=>(o.rd h).imp (sub _) id⟩
   have h1:(S.l.map fun x=>x.b)[i]? =some x.b:=by rw[List.getElem?_map,e];rfl
   have h2:(S.l.map fun x=>x.b)[j]? =some y.b:=by rw[List.getElem?_map,hj];rfl
   rw[hb] at h2
   exact(List.getElem?_inj (by rw[List.length_map];exact hi) S.nd).1 (h1.trans h2.symm)
 nd:=by
  have:(S.l.set i ⟨x.b,x.t,cs,0,false,[],[],x.nw,true⟩).map (fun x=>x.b)=S.l.map fun x=>x.b:=by
   rw[List.map_set]
   have h1:(S.l.map fun x=>x.b)[i]? =some x.b:=by rw[List.getElem?_map,e];rfl
   apply List.ext_getElem?
   intro j
   rw[List.getElem?_set]
   split
   next hj=>subst hj;rw[if_pos (List.getElem?_eq_some_iff.1 h1).1];exact h1.symm
   next=>rfl
  rw[this]
  exact S.nd
 fr:=fun c hc hp=>by
  have hx:=S.ok x (List.mem_of_getElem? e)
  have hlt:=S.lt (List.mem_of_getElem? e)
  have hp':(∀ y∈S.pu,c≠y)∧c≠x.b:=by
   cases hn:x.nw with
   |true=>
    simp only[hn,Bool.true_or,cond_true] at hp
    exact⟨hp,by have:=hx.rn hn;omega⟩
   |false=>
    cases hd:x.dn with
    |true=>
     simp only[hn,hd,Bool.or_true,cond_true] at hp
     refine⟨hp,?_⟩
     rcases hx.rd hd with h|h
     ·exact hp _ h
     ·omega
    |false=>
     simp only[hn,hd,Bool.or_false,cond_false] at hp
     exact⟨fun y hy=>hp y (List.mem_cons_of_mem _ hy),hp _ (List.mem_cons_self ..)⟩
  exact(zf _ _ _ _ hlt hp'.2).trans (S.fr c hc hp'.1)
 nx:=S.nx
 wm:=by rw[ze];have:=S.wm;omega
 wp:=fun y hy=>by
  rw[ze]
  have h1:y∈S.pu∨y=x.b:=by
   cases hb:x.nw || x.dn with
   |true=>rw[hb] at hy;exact .inl hy
   |false=>
    rw[hb] at hy
    rcases List.mem_cons.1 hy with h|h
    ·exact .inr h
    ·exact .inl h
  rcases h1 with h|h
  ·have:=S.wp y h;omega
  ·omega
 rk:=fun r hr=>by
  obtain⟨h1,h2,h3⟩:=S.rk r hr
  refine⟨h1,h2,fun y hy=>?_⟩
  rcases List.mem_or_eq_of_mem_set hy with hy|rfl
  ·exact h3 y hy
  ·exact h3 x (List.mem_of_getElem? e)
 rn:=S.rn
inductive Stp where
 |l (i t o:Nat)
 |g (i t o n:Nat)
 |k (i t j:Nat)
 |m (i t j:Nat)
 |w (i t o:Nat) (v:Value)
 |a (t:TypeId) (cs:Vs) (es:Nat) (ro:Bool)
 |o (o:AObj)
 |v (n:Nat)
 |b (i:Nat) (t:TypeId) (cs:Vs) (es:Nat) (ro:Bool)
 |j (s:Nat)
 |s (K:KS)
 |x (g:List Guess) (p:Heap→List TF)
 |p (v:Value) (p:TF)
 |c (g:Guess) (p:TF) (K:KS)
 |q (s:Stp)
 |z (j:Nat)
 |r (i t n:Nat)
abbrev SR:=Option (KS×List Guess×List TF)
noncomputable def stp(vs:Vs)(hs:List KS)(S:KS):Stp→SR
 | .l i t o=>match e:S.l[i]? with
  |some x=>if hc:yy En t=true then match hv:(x.cs.drop o).head? with
    |some v=>some (S,[.v v],[⟨LD S.h t x.b o v,zG (S.ok x (List.mem_of_getElem? e)).g hc hv⟩])
    |none=>none
   else none
  |none=>none
 | .g i t o n=>match e:S.l[i]? with
  |some x=>if hc:vq En t n=true then if hl:((x.cs.drop o).take n).length=n then
    some (S,[.v (.agg ⟨(x.cs.drop o).take n⟩)],[⟨LD S.h t x.b o (.agg ⟨(x.cs.drop o).take n⟩),uj n (S.ok x (List.mem_of_getElem? e)).g hc rfl hl⟩])
   else none else none
  |none=>none
 | .k i t j=>match e:S.l[i]? with
  |some x=>if hc:yy En t=true then match e2:x.xs[j]? with
    |some y=>some (S,[.v y.2],[⟨LD S.h t x.b y.1 y.2,zG (S.ok x (List.mem_of_getElem? e)).g hc ((S.ok x (List.mem_of_getElem? e)).rx y (List.mem_of_getElem? e2))⟩])
    |none=>none
   else none
  |none=>none
 | .m i t j=>match e:S.l[i]? with
  |some x=>match e2:x.ys[j]? with
    |some y=>if hc:vq En t y.2.length=true then
      some (S,[.v (.agg ⟨y.2⟩)],[⟨LD S.h t x.b y.1 (.agg ⟨y.2⟩),uj y.2.length (S.ok x (List.mem_of_getElem? e)).g hc ((S.ok x (List.mem_of_getElem? e)).ry y (List.mem_of_getElem? e2)) rfl⟩])
     else none
    |none=>none
  |none=>none
 | .w i t o v=>match e:S.l[i]? with
  |some x=>if h0:x.es=0 then if hr:x.ro=false then if hs:En.size t=some v.cells.size then match hv:uG x.cs o v.cells.toList with
    |some cs=>some (S.put i x e cs,[.e undef (pt S.h x.b x.t cs)],[⟨SV S.h t x.b o v (pt S.h x.b x.t cs),by
      have g:=(S.ok x (List.mem_of_getElem? e)).g
      rw[h0,hr] at g
      exact yp v.cells.size g hs rfl hv⟩])
    |none=>none
   else none else none else none
  |none=>none
 | .a t cs es ro=>some (S.al t cs es ro,[],[])
 | .o o=>some (S.alo o,[],[])
 | .v n=>some (S.res n,[],[])
 | .b i t cs es ro=>match e:S.rs[i]? with
  |some r=>some (S.bear i r e t cs es ro,[],[])
  |none=>none
 | .j s=>match hs[s]? with
  |some K=>some (K,[],[])
  |none=>none
 | .s K=>some (K,[],[])
 | .x g p=>some (S,g,p S.h)
 | .p v p=>some (S,[.e v S.h],[p])
 | .c g p K=>some (K,[g],[p])
 | .q s=>match stp vs hs S s with
  |some (K,_,f)=>some (K,[],f)
  |none=>none
 | .z j=>some (S,[],(vs.drop j).map fun v=>⟨v=v,rfl⟩)
 | .r i t n=>match e:S.l[i]? with
  |some x=>if hc:vq En t n=true then if hl:(x.cs.take n).length=n then
    some (S,[],[⟨LD S.h t x.b 0 (.agg ⟨x.cs.take n⟩),uj n (S.ok x (List.mem_of_getElem? e)).g hc rfl hl⟩])
   else none else if hc:yy En t=true then match hv:x.cs.head? with
    |some v=>some (S,[],[⟨LD S.h t x.b 0 v,zG (S.ok x (List.mem_of_getElem? e)).g hc (by rw[List.drop_zero];exact hv)⟩])
    |none=>none
   else none
  |none=>none
def Stp.nw:Stp→Bool
 | .w .. =>true
 | .a .. =>true
 | .o .. =>true
 | .v .. =>true
 | .b .. =>true
 | .c .. =>true
 | .s .. =>true
 |_=>false
noncomputable def run(vs:Vs):List Stp→List KS→KS→SR
 |[],_,S=>some (S,[],[])
 |s::r,hs,S=>match stp vs hs S s with
  |some (S1,g,f)=>match run vs r (bif s.nw then hs++[S1] else hs) S1 with
   |some (S2,gs,fs)=>some (S2,g++gs,f++fs)
   |none=>none
  |none=>none
noncomputable def gOf(r:SR):List Guess:=match r with|some r=>r.2.1|none=>[]
noncomputable def pOf(r:SR):List Prop:=match r with|some r=>r.2.2.map fun x=>x.P|none=>[]
noncomputable def kOf(r:SR)(S:KS):KS:=match r with|some r=>r.1|none=>S
theorem yq(r:SR):wG (pOf r):=by
 unfold pOf
 split
 ·exact zgX _
 ·trivial
def unp:Value→Vs
 | .tuple a=>a.toList
 |v=>[v]
/-! What a run leaves. -/
def frP(c:Nat)(G:Prop):List Nat→Prop
 |[]=>G
 |x::l=>c≠x→frP c G l
theorem zlY{c:Nat}{G:Prop}:∀ {l:List Nat},((∀ x∈l,c≠x)→G)→frP c G l
 |[],h=>h wk
 |x::l,h=>fun hx=>zlY fun hl=>h fun y hy=>by
  rcases List.mem_cons.1 hy with rfl|hy
  ·exact hx
  ·exact hl y hy
def zo8:List Prop→Prop
 |[]=>True
 |[p]=>p
 |p::q::l=>p∧zo8 (q::l)
theorem zir:∀ {l:List Prop},(∀ p∈l,p)→zo8 l
 |[],_=>trivial
 |[p],h=>h p (by simp)
 |p::q::l,h=>⟨h p (by simp),zir fun r hr=>h r (List.mem_cons_of_mem _ hr)⟩
def roP(S:KS)(i:Nat):Prop:=match S.l[i]? with|some x=>S.h.get x.b=some (.row x.t x.cs x.es x.ro)|none=>True
def zjA(S:KS)(is:List Nat):Prop:=
 zo8 ((∀ c,c < S.base.nx→frP c (S.h.get c=S.base.get c) S.pu)::(S.h.nx=S.base.nx+S.k)::(S.h.wm≤S.base.wm)::(S.pu.map (fun x=>S.h.wm≤x)++is.map (roP S)))
theorem zeK(S:KS)(is:List Nat):zjA S is:=by
 refine zir fun p hp=>?_
 simp only[List.mem_cons,List.mem_append,List.mem_map] at hp
 rcases hp with rfl|rfl|rfl|⟨x,hx,rfl⟩|⟨i,_,rfl⟩
 ·exact fun c hc=>zlY fun h=>S.fr c hc h
 ·exact S.nx
 ·exact S.wm
 ·exact S.wp x hx
 ·unfold roP
  split
  next x e=>exact(S.ok x (List.mem_of_getElem? e)).g
  next=>trivial
/-! Starts. -/
structure KO(h:Heap)(b:Nat) where
 t:TypeId
 cs:Vs
 es:Nat
 ro:Bool
 e:h.get b=some (.row t cs es ro)
 xs:List (Nat×Value)
 ys:List (Nat×Vs)
 rx:∀ e∈xs,(cs.drop e.1).head? =some e.2
 ry:∀ e∈ys,(cs.drop e.1).take e.2.length=e.2
def KO.kd{h:Heap}{b:Nat}(o:KO h b):KD:=⟨b,o.t,o.cs,o.es,o.ro,o.xs,o.ys,false,false⟩
theorem KO.ok{h base:Heap}{b:Nat}(o:KO h b)(pu:List Nat):o.kd.OK h base pu:=⟨o.e,o.rx,o.ry,(fun q=>by cases q),(fun q=>by cases q)⟩
section
variable {h:Heap} {b c d f:Nat}
def ko{t:TypeId}{cs:Vs}{es:Nat}{ro:Bool}(e:h.get b=some (.row t cs es ro)):KO h b:=⟨t,cs,es,ro,e,[],[],wk,wk⟩
def kZ(h:Heap):KS:=⟨h,[],h,[],0,[],wk,List.nodup_nil,fun _ _ _=>rfl,rfl,nL_ _,wk,wk,List.nodup_nil⟩
def kLs(l:List KD)(ok:∀ x∈l,x.OK h h [])(nd:(l.map fun x=>x.b).Nodup):KS:=⟨h,l,h,[],0,[],ok,nd,fun _ _ _=>rfl,rfl,nL_ _,wk,wk,List.nodup_nil⟩
theorem qn{α:Type}{P:α→Prop}{x:α}{l:List α}(h:P x)(g:∀ e∈l,P e):∀ e∈x::l,P e:=fun e he=>by
 rcases List.mem_cons.1 he with rfl|he
 ·exact h
 ·exact g e he
def kI(x:KO h b):KS:=kLs [x.kd] (qn (x.ok _) wk) (by simp)
abbrev Two(x:KO h b)(y:KO h c):Prop:=Nat.beq x.t y.t=false∨b≠c
theorem Two.ne{x:KO h b}{y:KO h c}(n:Two x y):b≠c:=n.elim (fun e q=>by
 subst q
 have:=Option.some.inj (x.e.symm.trans y.e)
 injection this with h1
 rw[h1] at e
 simp at e) id
def kJ(x:KO h b)(y:KO h c)(n:Two x y:=by first|exact .inl rfl|exact .inr (by omega)):KS:=kLs [x.kd,y.kd] (qn (x.ok _) (qn (y.ok _) wk)) (by simp[KO.kd,n.ne])
def kK(x:KO h b)(y:KO h c)(z:KO h d)(n:Two x y:=by first|exact .inl rfl|exact .inr (by omega))(n2:Two x z:=by first|exact .inl rfl|exact .inr (by omega))(n3:Two y z:=by first|exact .inl rfl|exact .inr (by omega)):KS:=
 kLs [x.kd,y.kd,z.kd] (qn (x.ok _) (qn (y.ok _) (qn (z.ok _) wk))) (by simp[KO.kd,n.ne,n2.ne,n3.ne])
theorem gX{t:TypeId}{cs:Vs}{es:Nat}{ro:Bool}(c:Nat)(o:AObj)(e:h.get b=some (.row t cs es ro))(n:b≠c:=by omega)(hc:c < h.nx:=by omega):(h.put c o).get b=some (.row t cs es ro):=(zf _ _ _ _ hc n).trans e
def KS.fh(S:KS)(he:S.h=S.base)(hk:S.pu=[]):KS:=⟨S.h.fh,S.l,S.h.fh,[],0,[],fun x hx=>by
 have o:=S.ok x hx
 exact⟨o.g,o.rx,o.ry,fun h=>by have:=o.rn h;rw[← he] at this;exact this,fun h=>by
  rcases o.rd h with d|d
  ·rw[hk] at d;simp at d
  ·rw[← he] at d;exact .inr d⟩,S.nd,fun _ _ _=>rfl,rfl,nL_ _,wk,wk,List.nodup_nil⟩
end
/-! Runs of a function, and of a part of one. -/
section
variable {n:Nat} {f:FuncId} {args:Vs} {h H:Heap} {v:Value} {G:Heap→Prop}
theorem fnV(S:KS)(st:List Stp)(e1:S.h=S.base:=by rfl)(e2:S.pu=[]:=by rfl)(e:zbA En 18446744073709551616 orcD n f (gOf (run [v] st [] (S.fh e1 e2))) args h [v]=some (pOf (run [v] st [] (S.fh e1 e2)),H):=by kernel_rfl):
  RD (n+1) f args h=some (zy h v H):=uS _ _ _ e (yq _)
theorem fnT(S:KS)(st:List Stp)(e1:S.h=S.base:=by rfl)(e2:S.pu=[]:=by rfl)(e:(zeJ (unp v),zbA En 18446744073709551616 orcD n f (gOf (run (unp v) st [] (S.fh e1 e2))) args h (unp v))=(v,some (pOf (run (unp v) st [] (S.fh e1 e2)),H)):=by kernel_rfl):
  RD (n+1) f args h=some (zy h v H):=by
 have:=uS _ _ _ (Prod.mk.inj e).2 (yq _)
 rw[(Prod.mk.inj e).1] at this
 exact this
theorem fpV(S:KS)(st:List Stp)(e1:S.h=S.base:=by rfl)(e2:S.pu=[]:=by rfl)(e:((kOf (run [v] st [] (S.fh e1 e2)) S).h.wm,zbA En 18446744073709551616 orcD n f (gOf (run [v] st [] (S.fh e1 e2))) args h [v])=(h.nx,some (pOf (run [v] st [] (S.fh e1 e2)),(kOf (run [v] st [] (S.fh e1 e2)) S).h)):=by kernel_rfl)(hl:zM h.nx 5 v=true:=by rfl):
  RD (n+1) f args h=some (v,h):=
 (uS _ _ _ (Prod.mk.inj e).2 (yq _)).trans (congrArg some (ye (Nat.le_of_eq (Prod.mk.inj e).1.symm) hl))
theorem exV(S:KS)(st:List Stp)(is:List Nat)(e1:S.h=S.base:=by rfl)(e2:S.pu=[]:=by rfl)(e:(zjA (kOf (run [v] st [] (S.fh e1 e2)) S) is,zbA En 18446744073709551616 orcD n f (gOf (run [v] st [] (S.fh e1 e2))) args h [v])=(G (kOf (run [v] st [] (S.fh e1 e2)) S).h,some (pOf (run [v] st [] (S.fh e1 e2)),(kOf (run [v] st [] (S.fh e1 e2)) S).h)):=by kernel_rfl):
  ∃ H,RD (n+1) f args h=some (zy h v H)∧G H:=⟨_,uS _ _ _ (Prod.mk.inj e).2 (yq _),(Prod.mk.inj e).1▸zeK _ _⟩
theorem exT(S:KS)(st:List Stp)(is:List Nat)(e1:S.h=S.base:=by rfl)(e2:S.pu=[]:=by rfl)(e:(zjA (kOf (run (unp v) st [] (S.fh e1 e2)) S) is,zeJ (unp v),zbA En 18446744073709551616 orcD n f (gOf (run (unp v) st [] (S.fh e1 e2))) args h (unp v))=(G (kOf (run (unp v) st [] (S.fh e1 e2)) S).h,v,some (pOf (run (unp v) st [] (S.fh e1 e2)),(kOf (run (unp v) st [] (S.fh e1 e2)) S).h)):=by kernel_rfl):
  ∃ H,RD (n+1) f args h=some (zy h v H)∧G H:=by
 have h1:=Prod.mk.inj e
 have h2:=Prod.mk.inj h1.2
 have:=uS _ _ _ h2.2 (yq _)
 rw[h2.1] at this
 exact⟨_,this,h1.1▸zeK _ _⟩
variable {nt:Nat} {c:Code} {l l':List (Nat×Value)} {x:Ex}
theorem bdF(S:KS)(st:List Stp)(e:zbx En (RD n) nt 18446744073709551616 c (gOf (run (l'.map fun p=>p.2) st [] S)) l h l'=some (pOf (run (l'.map fun p=>p.2) st [] S),x,H):=by kernel_rfl):wC En (RD n) nt 18446744073709551616 c l h x l' H:=
 zaj e (yq _)
theorem bdE(S:KS)(st:List Stp)(is:List Nat)(e:(zjA (kOf (run (l'.map fun p=>p.2) st [] S) S) is,zbx En (RD n) nt 18446744073709551616 c (gOf (run (l'.map fun p=>p.2) st [] S)) l h l')=(G (kOf (run (l'.map fun p=>p.2) st [] S) S).h,some (pOf (run (l'.map fun p=>p.2) st [] S),x,(kOf (run (l'.map fun p=>p.2) st [] S) S).h)):=by kernel_rfl):
  ∃ H,wC En (RD n) nt 18446744073709551616 c l h x l' H∧G H:=⟨_,zaj (Prod.mk.inj e).2 (yq _),(Prod.mk.inj e).1▸zeK _ _⟩
end
/-! Steps in short. -/
section
variable {P X:Prop} {v:Value} {h:Heap}
abbrev yT(p:P):Stp:=.x [.b true] fun _=>[⟨P,p⟩]
abbrev yF(p:P):Stp:=.x [.b false] fun _=>[⟨P,p⟩]
abbrev bT:Stp:=.x [.b true] fun _=>[⟨true=true,rfl⟩]
abbrev bF:Stp:=.x [.b false] fun _=>[⟨false=false,rfl⟩]
abbrev yH(p:P):Stp:=.x [] fun _=>[⟨P,p⟩]
abbrev yN(n:Nat):Stp:=.x [] fun _=>[⟨n=n,rfl⟩]
abbrev yQ(v:Value):Stp:=.x [] fun _=>[⟨some v=some v,rfl⟩]
abbrev yE{X:Option Value}(p:X=some v):Stp:=.x [.v v] fun _=>[⟨X=some v,p⟩]
abbrev yV(v:Value):Stp:=.x [.v v] fun _=>[⟨some v=some v,rfl⟩]
abbrev yW(x:Int)(h1: -9223372036854775808≤x:=by first|omega|(simp at *;omega))(h2:x≤9223372036854775807:=by first|omega|(simp at *;omega)):Stp:=.x [.v (iv x)] fun _=>[⟨WR x,uV h1 h2⟩]
abbrev yU(x:Int)(h1:0≤x:=by first|omega|(simp at *;omega))(h2:x≤255:=by first|omega|(simp at *;omega)):Stp:=.x [.v (.int .u8 x)] fun _=>[⟨_,zeh h1 h2⟩]
abbrev yM(x y:Int)(h1:0≤x:=by first|omega|(simp at *;omega))(h2:0 < y:=by first|omega|(simp at *;omega)):Stp:=.x [.v (iv (x % y))] fun _=>[⟨_,zqq h1 h2⟩]
abbrev yI(t:TypeId)(s:BA)(i:Int)(hu:En.und t=some .string:=by kernel_rfl)(h1:0≤i:=by first|omega|(simp at *;omega))(h2:i < s.data.toList.length:=by first|omega|(simp at *;omega)):Stp:=.x [.v (.int .u8 (bAt s i))] fun _=>[⟨_,zrk hu h1 h2⟩]
abbrev cL(t:TypeId)(s:BA)(a:Int)(hu:En.und t=some .string:=by kernel_rfl)(h1:0≤a:=by first|omega|(simp at *;omega))(h3:a≤s.data.toList.length:=by first|omega|(simp at *;omega)):Stp:=.x [.v (.string (zv s a s.data.toList.length))] fun h=>[⟨qG En h t (.string s) (some (some (iv a))) none none=_,zkL hu h1 h3⟩]
abbrev cH(t:TypeId)(s:BA)(b:Int)(hu:En.und t=some .string:=by kernel_rfl)(h1:0≤b:=by first|omega|(simp at *;omega))(h3:b≤s.data.toList.length:=by first|omega|(simp at *;omega)):Stp:=.x [.v (.string (zv s 0 b))] fun h=>[⟨qG En h t (.string s) none (some (some (iv b))) none=_,zi5 hu h1 h3⟩]
abbrev cB(t:TypeId)(s:BA)(a b:Int)(hu:En.und t=some .string:=by kernel_rfl)(h1:0≤a:=by first|omega|(simp at *;omega))(h2:a≤b:=by first|omega|(simp at *;omega))(h3:b≤s.data.toList.length:=by first|omega|(simp at *;omega)):Stp:=.x [.v (.string (zv s a b))] fun h=>[⟨qG En h t (.string s) (some (some (iv a))) (some (some (iv b))) none=_,zi6 hu h1 h2 h3⟩]
abbrev iA(t e s b len i:Nat)(hu:En.und t=some (.slice e):=by kernel_rfl)(hs:En.size e=some s:=by kernel_rfl)(hi:i < len:=by first|omega|(simp at *;omega)):Stp:=.x [.v (pv b (0+i * s))] fun _=>[⟨_,qj (o:=0) (b:=b) (cap:=len) (k:=.i64) hu hs hi⟩]
abbrev iB(t e s b len i:Nat)(hu:En.und t=some (.slice e):=by kernel_rfl)(hs:En.size e=some s:=by kernel_rfl)(hi:i+1 < len:=by first|omega|(simp at *;omega)):Stp:=.x [.v (pv b (0+(i+1) * s))] fun _=>[⟨_,zom (o:=0) (b:=b) (cap:=len) (k:=.i64) hu hs hi⟩]
abbrev iC(t e s b len i:Nat)(hu:En.und t=some (.slice e):=by kernel_rfl)(hs:En.size e=some s:=by kernel_rfl)(hi:i+1+1 < len:=by first|omega|(simp at *;omega)):Stp:=.x [.v (pv b (0+(i+1+1) * s))] fun _=>[⟨_,zlN (o:=0) (b:=b) (cap:=len) (k:=.i64) hu hs hi⟩]
abbrev iD(t e s b len i:Nat)(hu:En.und t=some (.slice e):=by kernel_rfl)(hs:En.size e=some s:=by kernel_rfl)(hi:i < len:=by first|omega|(simp at *;omega)):Stp:=.x [.v (pv b (0+i * s))] fun _=>[⟨_,zon (o:=0) (b:=b) (cap:=len) (k:=.i64) hu hs hi⟩]
abbrev aS(t:TypeId)(cs:Vs):Stp:=.a t cs 0 false
abbrev bS(i:Nat)(t:TypeId)(cs:Vs):Stp:=.b i t cs 0 false
abbrev yP{X:Option (Value×Heap)}(p:X=some (v,h)):Stp:=.p v ⟨_,p⟩
abbrev yC{X:Option (Value×Heap)}(p:X=some (v,h))(K:KS):Stp:=.c (.e v h) ⟨_,p⟩ K
abbrev yS{E:Env}{C:wQ}{nt L:Nat}{c:Code}{ov:T Value}{g:Heap}{x:Ex}{l:List (Nat×Value)}(p:zek E C nt L c ov g x l h)(K:KS):Stp:=.c (.s x l h) ⟨_,p⟩ K
end
noncomputable section
abbrev vA(c:Int):Value:=iv (firstIdx ⟨#[43,45,42,47,37,94,38,61,60,62,40,41,44,58]⟩ c.toNat.toUInt8)
abbrev vw(c:Int):Vs:=[.string ⟨#[43,45,42,47,37,94,38,61,60,62,40,41,44,58]⟩,.int .u8 c]
def zrl(s:BA)(c:Int):Value:=
 (iv (firstIdx s c.toNat.toUInt8))
variable (s:BA) (c:Int) (h:Heap) (n:Nat)
theorem zlO(hn:1≤n):RD n 64 [.string s,.int .u8 c] h=some (zrl s c,h):=by
 obtain⟨m,rfl⟩:=zs_ n
 exact fpV (kZ h) [yP (show zau.run [.string s,.int .u8 c] h.fh=some (iv (firstIdx s c.toNat.toUInt8),h.fh) from rfl),.z 0]
def zrm(s:BA)(c:Int):Value:=
 (iv (firstIdx s c.toNat.toUInt8))
theorem wb(hn:2≤n):RD n 39 [.string s,.int .u8 c] h=some (zrm s c,h):=by
 obtain⟨m,rfl⟩:=zs_ n
 exact fpV (kZ h) [yP (show Pu m 64 [.string s,.int .u8 c] (iv (firstIdx s c.toNat.toUInt8)) h.fh from zlO _ _ _ _ (by omega)),.z 0]
def zA(c:Int):Value:=
 bif decide ((c:Int)≥97) then(bif decide ((c:Int)≤122) then(iv 3) else
  bif decide ((c:Int)≥65) then(bif decide ((c:Int)≤90) then(iv 3) else
  bif decide ((c:Int)≥48) then(bif decide ((c:Int)≤57) then(iv 2) else
   bif ((c:Int)==32) then(iv 1) else
   bif ((c:Int)==34) then(iv 4) else
   bif decide ((firstIdx ⟨#[43,45,42,47,37,94,38,61,60,62,40,41,44,58]⟩ c.toNat.toUInt8:Int)≥0) then(iv 5) else
   (iv 0)) else
  bif ((c:Int)==32) then(iv 1) else
  bif ((c:Int)==34) then(iv 4) else
  bif decide ((firstIdx ⟨#[43,45,42,47,37,94,38,61,60,62,40,41,44,58]⟩ c.toNat.toUInt8:Int)≥0) then(iv 5) else
  (iv 0)) else
  bif decide ((c:Int)≥48) then(bif decide ((c:Int)≤57) then(iv 2) else
  bif ((c:Int)==32) then(iv 1) else
  bif ((c:Int)==34) then(iv 4) else
  bif decide ((firstIdx ⟨#[43,45,42,47,37,94,38,61,60,62,40,41,44,58]⟩ c.toNat.toUInt8:Int)≥0) then(iv 5) else
  (iv 0)) else
  bif ((c:Int)==32) then(iv 1) else
  bif ((c:Int)==34) then(iv 4) else
  bif decide ((firstIdx ⟨#[43,45,42,47,37,94,38,61,60,62,40,41,44,58]⟩ c.toNat.toUInt8:Int)≥0) then(iv 5) else
  (iv 0)) else
 bif decide ((c:Int)≥65) then(bif decide ((c:Int)≤90) then(iv 3) else
  bif decide ((c:Int)≥48) then(bif decide ((c:Int)≤57) then(iv 2) else
  bif ((c:Int)==32) then(iv 1) else
  bif ((c:Int)==34) then(iv 4) else
  bif decide ((firstIdx ⟨#[43,45,42,47,37,94,38,61,60,62,40,41,44,58]⟩ c.toNat.toUInt8:Int)≥0) then(iv 5) else
  (iv 0)) else
  bif ((c:Int)==32) then(iv 1) else
  bif ((c:Int)==34) then(iv 4) else
  bif decide ((firstIdx ⟨#[43,45,42,47,37,94,38,61,60,62,40,41,44,58]⟩ c.toNat.toUInt8:Int)≥0) then(iv 5) else
  (iv 0)) else
 bif decide ((c:Int)≥48) then(bif decide ((c:Int)≤57) then(iv 2) else
  bif ((c:Int)==32) then(iv 1) else
  bif ((c:Int)==34) then(iv 4) else
  bif decide ((firstIdx ⟨#[43,45,42,47,37,94,38,61,60,62,40,41,44,58]⟩ c.toNat.toUInt8:Int)≥0) then(iv 5) else
  (iv 0)) else
 bif ((c:Int)==32) then(iv 1) else
 bif ((c:Int)==34) then(iv 4) else
 bif decide ((firstIdx ⟨#[43,45,42,47,37,94,38,61,60,62,40,41,44,58]⟩ c.toNat.toUInt8:Int)≥0) then(iv 5) else
 (iv 0)
theorem zoe(hn:3≤n):RD n 196 [.int .u8 c] h=some (zA c,h):=by
 obtain⟨m,rfl⟩:=zs_ n
 cases b0:decide ((c:Int)≥97)
 ·cases b1:decide ((c:Int)≥65)
  ·cases b2:decide ((c:Int)≥48)
   ·cases b3:((c:Int)==32)
    ·cases b4:((c:Int)==34)
     ·cases b5:decide ((firstIdx ⟨#[43,45,42,47,37,94,38,61,60,62,40,41,44,58]⟩ c.toNat.toUInt8:Int)≥0)
      ·rw[zA,b0,b1,b2,b3,b4,b5]
       exact fpV (kZ h) [yF b0,yF b1,yF b2,yF b3,yF b4,yP (show Pu m 39 (vw c) (vA c) h.fh from wb _ _ _ _ (by omega)),yF b5,.z 0]
      ·rw[zA,b0,b1,b2,b3,b4,b5]
       exact fpV (kZ h) [yF b0,yF b1,yF b2,yF b3,yF b4,yP (show Pu m 39 (vw c) (vA c) h.fh from wb _ _ _ _ (by omega)),yT b5,.z 0]
     ·rw[zA,b0,b1,b2,b3,b4]
      exact fpV (kZ h) [yF b0,yF b1,yF b2,yF b3,yT b4,.z 0]
    ·rw[zA,b0,b1,b2,b3]
     exact fpV (kZ h) [yF b0,yF b1,yF b2,yT b3,.z 0]
   ·cases b3:decide ((c:Int)≤57)
    ·cases b4:((c:Int)==32)
     ·cases b5:((c:Int)==34)
      ·cases b6:decide ((firstIdx ⟨#[43,45,42,47,37,94,38,61,60,62,40,41,44,58]⟩ c.toNat.toUInt8:Int)≥0)
       ·rw[zA,b0,b1,b2,b3,b4,b5,b6]
        exact fpV (kZ h) [yF b0,yF b1,yT b2,yF b3,yF b4,yF b5,yP (show Pu m 39 (vw c) (vA c) h.fh from wb _ _ _ _ (by omega)),yF b6,.z 0]
       ·rw[zA,b0,b1,b2,b3,b4,b5,b6]
        exact fpV (kZ h) [yF b0,yF b1,yT b2,yF b3,yF b4,yF b5,yP (show Pu m 39 (vw c) (vA c) h.fh from wb _ _ _ _ (by omega)),yT b6,.z 0]
      ·rw[zA,b0,b1,b2,b3,b4,b5]
       exact fpV (kZ h) [yF b0,yF b1,yT b2,yF b3,yF b4,yT b5,.z 0]
     ·rw[zA,b0,b1,b2,b3,b4]
      exact fpV (kZ h) [yF b0,yF b1,yT b2,yF b3,yT b4,.z 0]
    ·rw[zA,b0,b1,b2,b3]
     exact fpV (kZ h) [yF b0,yF b1,yT b2,yT b3,.z 0]
  ·cases b2:decide ((c:Int)≤90)
   ·cases b3:decide ((c:Int)≥48)
    ·cases b4:((c:Int)==32)
     ·cases b5:((c:Int)==34)
      ·cases b6:decide ((firstIdx ⟨#[43,45,42,47,37,94,38,61,60,62,40,41,44,58]⟩ c.toNat.toUInt8:Int)≥0)
       ·rw[zA,b0,b1,b2,b3,b4,b5,b6]
        exact fpV (kZ h) [yF b0,yT b1,yF b2,yF b3,yF b4,yF b5,yP (show Pu m 39 (vw c) (vA c) h.fh from wb _ _ _ _ (by omega)),yF b6,.z 0]
       ·rw[zA,b0,b1,b2,b3,b4,b5,b6]
        exact fpV (kZ h) [yF b0,yT b1,yF b2,yF b3,yF b4,yF b5,yP (show Pu m 39 (vw c) (vA c) h.fh from wb _ _ _ _ (by omega)),yT b6,.z 0]
      ·rw[zA,b0,b1,b2,b3,b4,b5]
       exact fpV (kZ h) [yF b0,yT b1,yF b2,yF b3,yF b4,yT b5,.z 0]
     ·rw[zA,b0,b1,b2,b3,b4]
      exact fpV (kZ h) [yF b0,yT b1,yF b2,yF b3,yT b4,.z 0]
    ·cases b4:decide ((c:Int)≤57)
     ·cases b5:((c:Int)==32)
      ·cases b6:((c:Int)==34)
       ·cases b7:decide ((firstIdx ⟨#[43,45,42,47,37,94,38,61,60,62,40,41,44,58]⟩ c.toNat.toUInt8:Int)≥0)
        ·rw[zA,b0,b1,b2,b3,b4,b5,b6,b7]
         exact fpV (kZ h) [yF b0,yT b1,yF b2,yT b3,yF b4,yF b5,yF b6,yP (show Pu m 39 (vw c) (vA c) h.fh from wb _ _ _ _ (by omega)),yF b7,.z 0]
        ·rw[zA,b0,b1,b2,b3,b4,b5,b6,b7]
         exact fpV (kZ h) [yF b0,yT b1,yF b2,yT b3,yF b4,yF b5,yF b6,yP (show Pu m 39 (vw c) (vA c) h.fh from wb _ _ _ _ (by omega)),yT b7,.z 0]
       ·rw[zA,b0,b1,b2,b3,b4,b5,b6]
        exact fpV (kZ h) [yF b0,yT b1,yF b2,yT b3,yF b4,yF b5,yT b6,.z 0]
      ·rw[zA,b0,b1,b2,b3,b4,b5]
       exact fpV (kZ h) [yF b0,yT b1,yF b2,yT b3,yF b4,yT b5,.z 0]
     ·rw[zA,b0,b1,b2,b3,b4]
      exact fpV (kZ h) [yF b0,yT b1,yF b2,yT b3,yT b4,.z 0]
   ·rw[zA,b0,b1,b2]
    exact fpV (kZ h) [yF b0,yT b1,yT b2,.z 0]
 ·cases b1:decide ((c:Int)≤122)
  ·cases b2:decide ((c:Int)≥65)
   ·cases b3:decide ((c:Int)≥48)
    ·cases b4:((c:Int)==32)
     ·cases b5:((c:Int)==34)
      ·cases b6:decide ((firstIdx ⟨#[43,45,42,47,37,94,38,61,60,62,40,41,44,58]⟩ c.toNat.toUInt8:Int)≥0)
       ·rw[zA,b0,b1,b2,b3,b4,b5,b6]
        exact fpV (kZ h) [yT b0,yF b1,yF b2,yF b3,yF b4,yF b5,yP (show Pu m 39 (vw c) (vA c) h.fh from wb _ _ _ _ (by omega)),yF b6,.z 0]
       ·rw[zA,b0,b1,b2,b3,b4,b5,b6]
        exact fpV (kZ h) [yT b0,yF b1,yF b2,yF b3,yF b4,yF b5,yP (show Pu m 39 (vw c) (vA c) h.fh from wb _ _ _ _ (by omega)),yT b6,.z 0]
      ·rw[zA,b0,b1,b2,b3,b4,b5]
       exact fpV (kZ h) [yT b0,yF b1,yF b2,yF b3,yF b4,yT b5,.z 0]
     ·rw[zA,b0,b1,b2,b3,b4]
      exact fpV (kZ h) [yT b0,yF b1,yF b2,yF b3,yT b4,.z 0]
    ·cases b4:decide ((c:Int)≤57)
     ·cases b5:((c:Int)==32)
      ·cases b6:((c:Int)==34)
       ·cases b7:decide ((firstIdx ⟨#[43,45,42,47,37,94,38,61,60,62,40,41,44,58]⟩ c.toNat.toUInt8:Int)≥0)
        ·rw[zA,b0,b1,b2,b3,b4,b5,b6,b7]
         exact fpV (kZ h) [yT b0,yF b1,yF b2,yT b3,yF b4,yF b5,yF b6,yP (show Pu m 39 (vw c) (vA c) h.fh from wb _ _ _ _ (by omega)),yF b7,.z 0]
        ·rw[zA,b0,b1,b2,b3,b4,b5,b6,b7]
         exact fpV (kZ h) [yT b0,yF b1,yF b2,yT b3,yF b4,yF b5,yF b6,yP (show Pu m 39 (vw c) (vA c) h.fh from wb _ _ _ _ (by omega)),yT b7,.z 0]
       ·rw[zA,b0,b1,b2,b3,b4,b5,b6]
        exact fpV (kZ h) [yT b0,yF b1,yF b2,yT b3,yF b4,yF b5,yT b6,.z 0]
      ·rw[zA,b0,b1,b2,b3,b4,b5]
       exact fpV (kZ h) [yT b0,yF b1,yF b2,yT b3,yF b4,yT b5,.z 0]
     ·rw[zA,b0,b1,b2,b3,b4]
      exact fpV (kZ h) [yT b0,yF b1,yF b2,yT b3,yT b4,.z 0]
   ·cases b3:decide ((c:Int)≤90)
    ·cases b4:decide ((c:Int)≥48)
     ·cases b5:((c:Int)==32)
      ·cases b6:((c:Int)==34)
       ·cases b7:decide ((firstIdx ⟨#[43,45,42,47,37,94,38,61,60,62,40,41,44,58]⟩ c.toNat.toUInt8:Int)≥0)
        ·rw[zA,b0,b1,b2,b3,b4,b5,b6,b7]
         exact fpV (kZ h) [yT b0,yF b1,yT b2,yF b3,yF b4,yF b5,yF b6,yP (show Pu m 39 (vw c) (vA c) h.fh from wb _ _ _ _ (by omega)),yF b7,.z 0]
        ·rw[zA,b0,b1,b2,b3,b4,b5,b6,b7]
         exact fpV (kZ h) [yT b0,yF b1,yT b2,yF b3,yF b4,yF b5,yF b6,yP (show Pu m 39 (vw c) (vA c) h.fh from wb _ _ _ _ (by omega)),yT b7,.z 0]
       ·rw[zA,b0,b1,b2,b3,b4,b5,b6]
        exact fpV (kZ h) [yT b0,yF b1,yT b2,yF b3,yF b4,yF b5,yT b6,.z 0]
      ·rw[zA,b0,b1,b2,b3,b4,b5]
       exact fpV (kZ h) [yT b0,yF b1,yT b2,yF b3,yF b4,yT b5,.z 0]
     ·cases b5:decide ((c:Int)≤57)
      ·cases b6:((c:Int)==32)
       ·cases b7:((c:Int)==34)
        ·cases b8:decide ((firstIdx ⟨#[43,45,42,47,37,94,38,61,60,62,40,41,44,58]⟩ c.toNat.toUInt8:Int)≥0)
         ·rw[zA,b0,b1,b2,b3,b4,b5,b6,b7,b8]
          exact fpV (kZ h) [yT b0,yF b1,yT b2,yF b3,yT b4,yF b5,yF b6,yF b7,yP (show Pu m 39 (vw c) (vA c) h.fh from wb _ _ _ _ (by omega)),yF b8,.z 0]
         ·rw[zA,b0,b1,b2,b3,b4,b5,b6,b7,b8]
          exact fpV (kZ h) [yT b0,yF b1,yT b2,yF b3,yT b4,yF b5,yF b6,yF b7,yP (show Pu m 39 (vw c) (vA c) h.fh from wb _ _ _ _ (by omega)),yT b8,.z 0]
        ·rw[zA,b0,b1,b2,b3,b4,b5,b6,b7]
         exact fpV (kZ h) [yT b0,yF b1,yT b2,yF b3,yT b4,yF b5,yF b6,yT b7,.z 0]
       ·rw[zA,b0,b1,b2,b3,b4,b5,b6]
        exact fpV (kZ h) [yT b0,yF b1,yT b2,yF b3,yT b4,yF b5,yT b6,.z 0]
      ·rw[zA,b0,b1,b2,b3,b4,b5]
       exact fpV (kZ h) [yT b0,yF b1,yT b2,yF b3,yT b4,yT b5,.z 0]
    ·rw[zA,b0,b1,b2,b3]
     exact fpV (kZ h) [yT b0,yF b1,yT b2,yT b3,.z 0]
  ·rw[zA,b0,b1]
   exact fpV (kZ h) [yT b0,yT b1,.z 0]
def yB(r c:Int):Value:=
 bif decide ((r:Int)≥1) then(bif decide ((r:Int)≤1000) then(bif decide ((c:Int)≥1) then(bif decide ((c:Int)≤50) then(.bool true) else
   (.bool false)) else
  (.bool false)) else
  (.bool false)) else
 (.bool false)
theorem zos(r c:Int)(h:Heap)(n:Nat)(hn:1≤n):RD n 37 [.agg #[iv r,iv c]] h=some (yB r c,h):=by
 obtain⟨m,rfl⟩:=zs_ n
 cases b0:decide ((r:Int)≥1)
 ·rw[yB,b0]
  exact fpV (kZ h) [aS 29 [iv r,iv c],.l 0 3 0,yF b0,.z 0]
 ·cases b1:decide ((r:Int)≤1000)
  ·rw[yB,b0,b1]
   exact fpV (kZ h) [aS 29 [iv r,iv c],.l 0 3 0,yT b0,.l 0 3 0,yF b1,.z 0]
  ·cases b2:decide ((c:Int)≥1)
   ·rw[yB,b0,b1,b2]
    exact fpV (kZ h) [aS 29 [iv r,iv c],.l 0 3 0,yT b0,.l 0 3 0,yT b1,.l 0 3 1,yF b2,.z 0]
   ·cases b3:decide ((c:Int)≤50)
    ·rw[yB,b0,b1,b2,b3]
     exact fpV (kZ h) [aS 29 [iv r,iv c],.l 0 3 0,yT b0,.l 0 3 0,yT b1,.l 0 3 1,yT b2,.l 0 3 1,yF b3,.z 0]
    ·rw[yB,b0,b1,b2,b3]
     exact fpV (kZ h) [aS 29 [iv r,iv c],.l 0 3 0,yT b0,.l 0 3 0,yT b1,.l 0 3 1,yT b2,.l 0 3 1,yT b3,.z 0]
end
def zb5(k:Int):Value:=
 bif ((k:Int)==2) then(.bool true) else
 (.bool false)
variable (k:Int) (h:Heap) (n:Nat)
theorem znM(hn:1≤n):RD n 218 [iv k] h=some (zb5 k,h):=by
 obtain⟨m,rfl⟩:=zs_ n
 cases b0:((k:Int)==2)
 ·rw[zb5,b0]
  exact fpV (kZ h) [yF b0,.z 0]
 ·rw[zb5,b0]
  exact fpV (kZ h) [yT b0,.z 0]
def za4(k:Int):Value:=
 bif ((k:Int)==3) then(.bool true) else
 bif ((k:Int)==2) then(.bool true) else
 (.bool false)
theorem znL(hn:1≤n):RD n 220 [iv k] h=some (za4 k,h):=by
 obtain⟨m,rfl⟩:=zs_ n
 cases b0:((k:Int)==3)
 ·cases b1:((k:Int)==2)
  ·rw[za4,b0,b1]
   exact fpV (kZ h) [yF b0,yF b1,.z 0]
  ·rw[za4,b0,b1]
   exact fpV (kZ h) [yF b0,yT b1,.z 0]
 ·rw[za4,b0]
  exact fpV (kZ h) [yT b0,.z 0]
def vP(s:BA):Value:=
 bif decide ((s.data.toList.length:Int)>1) then(bif bqS (zv s 0 2) ⟨#[60,62]⟩ then(iv 2) else
  bif bqS (zv s 0 2) ⟨#[60,61]⟩ then(iv 2) else
  bif bqS (zv s 0 2) ⟨#[62,61]⟩ then(iv 2) else
  (iv 1)) else
 (iv 1)
theorem zkO(s:BA)(h:Heap)(n:Nat)(hn:1≤n):RD n 222 [.string s] h=some (vP s,h):=by
 obtain⟨m,rfl⟩:=zs_ n
 cases b0:decide ((s.data.toList.length:Int)>1)
 ·rw[vP,b0]
  exact fpV (kZ h) [yF b0,.z 0]
 ·cases b1:bqS (zv s 0 2) ⟨#[60,62]⟩
  ·cases b2:bqS (zv s 0 2) ⟨#[60,61]⟩
   ·cases b3:bqS (zv s 0 2) ⟨#[62,61]⟩
    ·rw[vP,b0,b1,b2,b3]
     exact fpV (kZ h) [yT b0,cH 9 s 2,yF b1,yF b2,yF b3,.z 0]
    ·rw[vP,b0,b1,b2,b3]
     exact fpV (kZ h) [yT b0,cH 9 s 2,yF b1,yF b2,yT b3,.z 0]
   ·rw[vP,b0,b1,b2]
    exact fpV (kZ h) [yT b0,cH 9 s 2,yF b1,yT b2,.z 0]
  ·rw[vP,b0,b1]
   exact fpV (kZ h) [yT b0,cH 9 s 2,yT b1,.z 0]
end Go.PanE
namespace Go.PanE
open Go.Proofs
def wE(r c:Int):Bool:=bif decide (r≥1) then bif decide (r≤1000) then bif decide (c≥1) then decide (c≤50) else false else false else false
theorem zlV(r c:Int):yB r c= .bool (wE r c):=by
 unfold yB wE
 cases decide (r≥1) <;>cases decide (r≤1000) <;>cases decide (c≥1) <;>cases decide (c≤50) <;>rfl
theorem vQ(r c:Int)(h:Heap)(n:Nat)(hn:1≤n):zB En orcD (drawn En) 18446744073709551616 n 37 [.agg #[.int .i64 r,.int .i64 c]] h=some (.bool (wE r c),h):=by
 exact(zos r c h n hn).trans (by rw[zlV])
section
variable {env:Env} {h:Heap}
theorem jb(h:Heap)(b:Nat):(h.kill b).nx=h.nx:=rfl
theorem vf(h:Heap)(b:Nat):(h.kill b).wm=min b h.wm:=yj b h.wm
theorem zU(h:Heap){b c:Nat}(hc:c≠b):(h.kill b).get c=h.get c:=by rw[qJ,if_neg hc]
structure SlT(env:Env)(t e:TypeId)(sz by_:Nat):Prop where
 und:env.und t=some (.slice e)
 size:env.size e=some sz
 bytes:env.bytes e=some by_
 zero:∃ z,env.zero e=some z∧z.cells.size=sz
 pos:0 < sz
theorem zey{b o n c sz:Nat}{el:TypeId}{cs xs:Vs}{es:Nat}{ro:Bool}(hg:h.get b=some (.row el cs es ro))(hx:(cs.drop o).take (n * sz)=xs)(hl:xs.length=n * sz):
  zY h sz none (.slice (some ⟨b,o,none⟩) n c)=some xs:=by
 simp only[zY,hg,Option.getD_none,hx]
 rw[if_pos (by rw[hl];exact Nat.beq_refl _)]
theorem vv{t e:TypeId}{sz by_ b o n c:Nat}{el:TypeId}{cs xs:Vs}{es:Nat}{ro:Bool}(S:SlT env t e sz by_)(hg:h.get b=some (.row el cs es ro))(hx:(cs.drop o).take (n * sz)=xs)(hl:xs.length=n * sz)
  (hn:0 < n) (hb:(2 * n+1000) * (by_+1)≤281474976710656):
  zu env h #[t,t] (.slice none 0 0) (.slice (some ⟨b,o,none⟩) n c)=some (.slice (some ⟨h.nx,0,none⟩) n n,h.alloc (.row e xs sz false)):=by
 obtain⟨z,hz,hzs⟩:=S.zero
 have hsrc:=zey (n:=n) (c:=c) hg hx hl
 have p:=S.pos
 have c1:(vI (.slice e) || Nat.beq sz 0 || !Nat.beq xs.length (n * sz) || !Nat.beq z.cells.size sz)=false:=by
  have h1:Nat.beq sz 0=false:=T.beq_false (by omega)
  rw[hl,hzs,Nat.beq_refl,Nat.beq_refl,h1];rfl
 unfold zu
 simp only[List.getElem?_toArray,List.getElem?_cons_zero,List.getElem?_cons_succ,S.und,S.size,S.bytes,hz,jA,hsrc,c1,Bool.false_eq_true,if_false]
 have h2:Nat.beq n 0=false:=T.beq_false (by omega)
 have h3:Nat.ble n 0=false:=by
  cases e:Nat.ble n 0 with
  |false=>rfl
  |true=>rw[Nat.ble_eq] at e;omega
 have h4:Nat.ble ((2 * n+1000) * (by_+1)) 281474976710656=true:=by rw[Nat.ble_eq];exact hb
 simp only[Nat.zero_add,h2,h3,h4,Bool.false_eq_true,if_false,if_true]
theorem qK{t e:TypeId}{sz by_ b0 l b o n c:Nat}{el:TypeId}{cells cs xs:Vs}{es:Nat}{ro:Bool}(S:SlT env t e sz by_)(h0:h.get b0=some (.row e cells sz false))(h0l:cells.length=l * sz)
  (hg:h.get b=some (.row el cs es ro)) (hx:(cs.drop o).take (n * sz)=xs) (hl:xs.length=n * sz) (hone:xs.all jh=true)
  (hn:0 < n) (hb:(2 * (l+n)+1000) * (by_+1)≤281474976710656):
  zu env h #[t,t] (.slice (some ⟨b0,0,none⟩) l l) (.slice (some ⟨b,o,none⟩) n c)=some (.slice (some ⟨h.nx,0,none⟩) (l+n) (l+n),(h.kill b0).alloc (.row e (cells++xs) sz false)):=by
 obtain⟨z,hz,hzs⟩:=S.zero
 have hsrc:=zey (n:=n) (c:=c) hg hx hl
 have p:=S.pos
 have c1:(vI (.slice e) || Nat.beq sz 0 || !Nat.beq xs.length (n * sz) || !Nat.beq z.cells.size sz)=false:=by
  have h1:Nat.beq sz 0=false:=T.beq_false (by omega)
  rw[hl,hzs,Nat.beq_refl,Nat.beq_refl,h1];rfl
 unfold zu
 simp only[List.getElem?_toArray,List.getElem?_cons_zero,List.getElem?_cons_succ,S.und,S.size,S.bytes,hz,jA,hsrc,c1,Bool.false_eq_true,if_false]
 have h2:Nat.beq n 0=false:=T.beq_false (by omega)
 have h3:Nat.ble (l+n) l=false:=by
  cases e:Nat.ble (l+n) l with
  |false=>rfl
  |true=>rw[Nat.ble_eq] at e;omega
 have h4:Nat.ble ((2 * (l+n)+1000) * (by_+1)) 281474976710656=true:=by rw[Nat.ble_eq];exact hb
 have h5:jy env h e b0 0 l=some true:=by
  unfold jy
  rw[h0,S.size]
  simp only
  rw[if_neg (by omega)];simp only[if_true,Nat.zero_add,h0l,Nat.beq_refl]
 have h6:zY h sz (some l) (.slice (some ⟨b0,0,none⟩) l l)=some cells:=by
  simp only[zY,h0,Option.getD_some,List.drop_zero]
  rw[List.take_of_length_le (by omega),if_pos (by rw[h0l];exact Nat.beq_refl _)]
 have h7:(Nat.beq e e && xs.all jh && Nat.ble l l && Nat.beq 0 0)=true:=by
  rw[Nat.beq_refl,hone,Nat.beq_refl]
  have:Nat.ble l l=true:=by rw[Nat.ble_eq];exact nL_ l
  rw[this];rfl
 simp only[h2,h3,h4,h5,h6,h0,h7,Bool.false_eq_true,if_false,if_true]
theorem qV:SlT En 108 5 1 1:=⟨by kernel_rfl,by kernel_rfl,by kernel_rfl,⟨.int .u8 0,by kernel_rfl,rfl⟩,by decide⟩
end
end Go.PanE
