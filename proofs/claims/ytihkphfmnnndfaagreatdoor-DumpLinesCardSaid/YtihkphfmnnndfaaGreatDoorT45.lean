/-
 Part 45 of the proof of Rows.DumpLinesCardSaid. No conditions.
-/
import Derived.Test.YtihkphfmnnndfaaGreatDoorT44
namespace Go.PanE
open Go.Proofs
theorem zc8:∃ f:Int→Int→Bsy→Bsy,∀ (k v:Int) (s:Bsy),-9223372036854775808≤v→v≤9223372036854775807→(f k v s).length≤s.length+20∧
  ∀ (m:Int) (h:Heap) (n:Nat),4≤n→Gl m h→RD n 25 [.agg #[iv k,iv v,.string ⟨⟨s⟩⟩]] h=some (.string ⟨⟨f k v s⟩⟩,h)∧RD n 26 [.agg #[iv k,iv v,.string ⟨⟨s⟩⟩]] h=some (.string ⟨⟨f k v s⟩⟩,h):=by
 classical
 refine⟨fun k v s=>if h: -9223372036854775808≤v∧v≤9223372036854775807 then Classical.choose (zgs k v s h.1 h.2) else[],fun k v s h1 h2=>?_⟩
 simp only[dif_pos (And.intro h1 h2)]
 exact Classical.choose_spec (zgs k v s h1 h2)
noncomputable def shT:Int→Int→Bsy→Bsy:=Classical.choose zc8
def Ent.ok(e:Ent):Prop:=e.s.length≤1000∧-9223372036854775808≤e.v∧e.v≤9223372036854775807
noncomputable def qk(e:Ent):Value:=.string ⟨⟨(jL e.r e.c++[32])++shT e.k e.v e.s⟩⟩
section
variable {m:Int} {h:Heap}
theorem zkR{e:Ent}(g:e.ok):(shT e.k e.v e.s).length≤1020:=by
 have:=(Classical.choose_spec zc8 e.k e.v e.s g.2.1 g.2.2).1
 have:=g.1
 unfold shT;omega
theorem zpA{e:Ent}(g:e.ok)(n:Nat)(hn:4≤n)(G:Gl m h):RD n 25 [.agg #[iv e.k,iv e.v,.string ⟨⟨e.s⟩⟩]] h=some (.string ⟨⟨shT e.k e.v e.s⟩⟩,h)∧RD n 26 [.agg #[iv e.k,iv e.v,.string ⟨⟨e.s⟩⟩]] h=some (.string ⟨⟨shT e.k e.v e.s⟩⟩,h):=(Classical.choose_spec zc8 e.k e.v e.s g.2.1 g.2.2).2 m h n hn G
def zvc(Lp:List (Nat×Value)→Heap→Ex→List (Nat×Value)→Heap→Nat→Prop)(l:List (Nat×Value))(h:Heap)(lo k:Nat)(cs:Vs):Prop:=
 ∃ H R r',R≤k∧Sm lo h H∧Lp l h (.exit 0) [(3,.slice r' cs.length cs.length)] H R∧TxR H lo r' cs
abbrev TbA(n:Nat):=Loops En (RD n) 25 18446744073709551616 (sub [1,1,0,1,0,0] (zp Tryz.f11))
abbrev TbB(n:Nat):=Loops En (RD n) 29 18446744073709551616 (sub [1,1,0,1,0,0] (zp Tryz.f12))
theorem zhK(L:List Ent)(hL:∀ e∈L,e.ok)(hN:L.length≤100)(lo:Nat)(hlo:14≤lo)(xr:OA)(n:Nat)(hn:5≤n):∀ (rest:List Ent) (i:Nat) (acc:Vs) (h:Heap) (r:OA),L.drop i=rest→i+rest.length=L.length→AR enL h lo xr L→TxR h lo r acc→lo≤h.nx→Gl m h→acc.length+rest.length≤100→
  zvc (TbA n) [(3,.slice r acc.length acc.length),(6,.slice xr L.length L.length),(7,iv L.length),(8,iv (i:Int))] h lo (rest.length+1) (acc++rest.map qk)
 |[],i,acc,h,r,hr,hi,A,T,hx,G,ha=>by
  rw[List.map_nil,List.append_nil]
  exact⟨h,1,r,nL_ _,(Kp.refl h).sm hx,.out (zsK h _ L.length i acc.length n r (zE (by simp only[lN] at hi;omega))),T⟩
 |e::rest,i,acc,h,r,hr,hi,A,T,hx,G,ha=>by
  obtain⟨ib,t,es,ro,rfl,hg⟩:=A.some hr
  rw[lC] at hi ha
  have g:=hL e (List.mem_of_mem_drop (hr▸List.mem_cons_self ..))
  have K0:Kp h (zd 1 (pt (al h 31 [iv 0,iv 0,iv 0,iv 0,.string ⟨#[]⟩]) h.nx 31 (enL e))):=(((Kp.refl h).al _ _).pt _ _ (nL_ _) (nS _)).rs 1
  have G0:=G.sm (K0.sm hx) hlo
  have nx0:(zd 1 (pt (al h 31 [iv 0,iv 0,iv 0,iv 0,.string ⟨#[]⟩]) h.nx 31 (enL e))).nx=h.nx+2:=by rw[zK];rfl
  have K:Kp h (pt (zd 1 (pt (al h 31 [iv 0,iv 0,iv 0,iv 0,.string ⟨#[]⟩]) h.nx 31 (enL e))) (h.nx+1) 9 [qk e]):=K0.pt _ _ (by omega) (by rw[nx0];omega)
  have gN:(pt (zd 1 (pt (al h 31 [iv 0,iv 0,iv 0,iv 0,.string ⟨#[]⟩]) h.nx 31 (enL e))) (h.nx+1) 9 [qk e]).get (h.nx+1)=some (.row 9 [qk e] 0 false):=gP (by rw[nx0];omega)
  obtain⟨r',h2,ap,T2,S2⟩:=zf1 (T.mono (kpg K)) gN (by omega) (nT hx K.nx)
  have S:=(K.sm hx).trans S2
  obtain⟨H,R,r2,hR,SS,LL,TT⟩:=zhK L hL hN lo hlo (some ⟨ib,0,none⟩) n hn rest (i+1) (acc++[qk e]) h2 r' (by rw[← List.drop_drop,hr];rfl) (by omega) (A.mono S.get) T2 (nT hx S.nx) (G.sm S hlo) (by rw[lA,lC,lN];omega)
  have bd:=zvx h h2 ib L.length i acc.length (acc.length+1) n r r' e.r e.c e.k e.v ⟨⟨e.s⟩⟩ ⟨⟨jL e.r e.c⟩⟩ ⟨⟨shT e.k e.v e.s⟩⟩ (by omega) (by omega) (zbq _ _) (nT (zkR g) (by decide)) (zw (by omega)) (zur hg hr) (zpP G0 e.r e.c n (by omega)) (zpA g n (by omega) G0).1 ap
  rw[List.append_assoc] at LL TT
  rw[show(acc++[qk e]).length=acc.length+1 by simp] at LL
  exact⟨H,R+1,r2,by rw[lC];omega,S.trans SS,.on bd LL,TT⟩
theorem zhL(L:List Ent)(hL:∀ e∈L,e.ok)(hN:L.length≤100)(lo:Nat)(hlo:14≤lo)(xr:OA)(n:Nat)(hn:5≤n):∀ (rest:List Ent) (i:Nat) (acc:Vs) (h:Heap) (r:OA),L.drop i=rest→i+rest.length=L.length→AR enL h lo xr L→TxR h lo r acc→lo≤h.nx→Gl m h→acc.length+rest.length≤100→
  zvc (TbB n) [(0,.slice xr L.length L.length),(3,.slice r acc.length acc.length),(4,iv (i:Int))] h lo (rest.length+1) (acc++rest.map qk)
 |[],i,acc,h,r,hr,hi,A,T,hx,G,ha=>by
  rw[List.map_nil,List.append_nil]
  exact⟨h,1,r,nL_ _,(Kp.refl h).sm hx,.out (zsL h L.length i acc.length n xr r (zE (by simp only[lN] at hi;omega))),T⟩
 |e::rest,i,acc,h,r,hr,hi,A,T,hx,G,ha=>by
  obtain⟨ib,t,es,ro,rfl,hg⟩:=A.some hr
  rw[lC] at hi ha
  have g:=hL e (List.mem_of_mem_drop (hr▸List.mem_cons_self ..))
  have K0:Kp h (zd 1 h):=(Kp.refl h).rs 1
  have G0:=G.reserve 1
  have hg0:=kpg K0 _ _ hg
  have nx0:(zd 1 h).nx=h.nx+1:=zK _ _
  have K:Kp h (pt (zd 1 h) h.nx 9 [qk e]):=K0.pt _ _ (by omega) (by rw[nx0];omega)
  have gN:(pt (zd 1 h) h.nx 9 [qk e]).get h.nx=some (.row 9 [qk e] 0 false):=gP (by rw[nx0];omega)
  obtain⟨r',h2,ap,T2,S2⟩:=zf1 (T.mono (kpg K)) gN (by omega) (nT hx K.nx)
  have S:=(K.sm hx).trans S2
  obtain⟨H,R,r2,hR,SS,LL,TT⟩:=zhL L hL hN lo hlo (some ⟨ib,0,none⟩) n hn rest (i+1) (acc++[qk e]) h2 r' (by rw[← List.drop_drop,hr];rfl) (by omega) (A.mono S.get) T2 (nT hx S.nx) (G.sm S hlo) (by rw[lA,lC,lN];omega)
  have bd:=zvA h h2 ib L.length i acc.length (acc.length+1) n r r' e.r e.c e.k e.v ⟨⟨e.s⟩⟩ ⟨⟨jL e.r e.c⟩⟩ ⟨⟨shT e.k e.v e.s⟩⟩ (by omega) (by omega) (zbq _ _) (nT (zkR g) (by decide)) (zw (by omega)) (zBs hg0 hr) (zpO _ e.r e.c n (by omega)) (zBr hg0 hr) (zpA g n (by omega) G0).2 ap
  rw[List.append_assoc] at LL TT
  rw[show(acc++[qk e]).length=acc.length+1 by simp] at LL
  exact⟨H,R+1,r2,by rw[lC];omega,S.trans SS,.on bd LL,TT⟩
theorem zih{X:Option (Value×Heap)}{H:Heap}{r:OA}{cs:Vs}(e:X=some (zy h (.slice r cs.length cs.length) H))(S:Sm h.nx h.fh H)(T:TxR H h.nx r cs):
  ∃ h' r,X=some (.slice r cs.length cs.length,h')∧Kp h h'∧TxR h' h.nx r cs:=by
 have K:Kp h.fh H:=⟨S.nx,S.get,S.wm⟩
 rcases T with⟨rfl,rfl⟩|⟨q,rfl,hq,hg⟩
 ·exact⟨_,_,PanE.fin e,K.fin,.inl ⟨rfl,rfl⟩⟩
 ·have hlow:zM h.nx 5 (.slice (some ⟨q,0,none⟩) cs.length cs.length)=false:=by
   simp[zM,jH hq]
  exact⟨_,_,jY e hlow,⟨K.nx,K.get,Nat.min_le_left _ _⟩,.inr ⟨q,rfl,hq,hg⟩⟩
theorem zkH(L:List Ent)(hL:∀ e∈L,e.ok)(hN:L.length≤100)(xr:OA)(A:AR enL h h.nx xr L)(n:Nat)(hn:6≤n)(G:Gl m h):
  ∃ h' r,RD n 11 [.slice xr L.length L.length] h=some (.slice r (L.map qk).length (L.map qk).length,h')∧Kp h h'∧TxR h' h.nx r (L.map qk):=by
 obtain⟨n,rfl⟩:=zs_ n
 obtain⟨H,R,r,hR,S,LL,T⟩:=zhK L hL hN h.nx G.nx xr n (by omega) L 0 [] h.fh none rfl (by omega) A (.inl ⟨rfl,rfl⟩) (nL_ _) G.fh (by simp only[lN];omega)
 exact zih (zvy h H xr L.length (L.map qk).length n r (LL.fact2 (by omega) (by kernel_rfl))) S T
theorem zi1(L:List Ent)(hL:∀ e∈L,e.ok)(hN:L.length≤100)(xr:OA)(A:AR enL h h.nx xr L)(n:Nat)(hn:6≤n)(G:Gl m h):
  ∃ h' r,RD n 12 [.slice xr L.length L.length] h=some (.slice r (L.map qk).length (L.map qk).length,h')∧Kp h h'∧TxR h' h.nx r (L.map qk):=by
 obtain⟨n,rfl⟩:=zs_ n
 obtain⟨H,R,r,hR,S,LL,T⟩:=zhL L hL hN h.nx G.nx xr n (by omega) L 0 [] h.fh none rfl (by omega) A (.inl ⟨rfl,rfl⟩) (nL_ _) G.fh (by simp only[lN];omega)
 exact zih (zvB h H xr L.length (L.map qk).length n r (LL.fact2 (by omega) (by kernel_rfl))) S T
/-! Fair. -/
abbrev FrL(n:Nat):=Loops En (RD n) 20 18446744073709551616 (sub [1,0,1,0,0] (zp Tryz.f5))
theorem zig(L:List Edt)(hN:L.length < 9223372036854775808)(lo:Nat)(xr:OA)(A:AR edL h lo xr L)(n:Nat):∀ (rest:List Edt) (i:Nat),L.drop i=rest→i+rest.length=L.length→
  ∃ R,R≤rest.length+1∧if(∀ e∈rest,e.s.length≤1000) then FrL n [(0,.slice xr L.length L.length),(3,iv (i:Int))] h (.exit 0) [(0,.slice xr L.length L.length)] h R else FrL n [(0,.slice xr L.length L.length),(3,iv (i:Int))] h .ret [(2,.bool false)] h R
 |[],i,hr,hi=>by
  refine⟨1,nL_ _,?_⟩
  rw[if_pos (by simp)]
  exact .out (zuh h L.length i n xr (zE (by simp only[lN] at hi;omega)))
 |e::rest,i,hr,hi=>by
  obtain⟨ib,t,es,ro,rfl,hg⟩:=A.some hr
  rw[lC] at hi
  by_cases hs:e.s.length≤1000
  ·obtain⟨R,hR,O⟩:=zig L hN lo _ A n rest (i+1) (by rw[← List.drop_drop,hr];rfl) (by omega)
   have bd:=zxf h ib L.length i n ⟨⟨e.s⟩⟩ (by omega) hN (zw (by omega)) (zoN hg hr) (zR (by show ¬ 1000 < e.s.length;omega))
   refine⟨R+1,by rw[lC];omega,?_⟩
   by_cases ha:∀ e∈rest,e.s.length≤1000
   ·rw[if_pos ha] at O
    rw[if_pos ((List.forall_mem_cons (p:=fun e:Edt=>e.s.length≤1000)).2 ⟨hs,ha⟩)]
    exact .on bd O
   ·rw[if_neg ha] at O
    rw[if_neg fun x=>ha ((List.forall_mem_cons (p:=fun e:Edt=>e.s.length≤1000)).1 x).2]
    exact .on bd O
  ·refine⟨1,by omega,?_⟩
   rw[if_neg fun x=>hs ((List.forall_mem_cons (p:=fun e:Edt=>e.s.length≤1000)).1 x).1]
   exact .ret (zxg h ib L.length i n ⟨⟨e.s⟩⟩ (by omega) hN (zw (by omega)) (zoN hg hr) (wj (by show 1000 < e.s.length;omega)))
theorem zoE(L:List Edt)(hN:L.length < 9223372036854775808)(xr:OA)(A:AR edL h h.nx xr L)(n:Nat)(hn:1≤n):
  RD n 5 [.slice xr L.length L.length] h=some (.bool (decide ((∀ e∈L,e.s.length≤1000)∧L.length≤60)),h):=by
 obtain⟨n,rfl⟩:=zs_ n
 obtain⟨R,hR,O⟩:=zig (h:=h.fh) L hN h.nx xr A n L 0 rfl (by omega)
 by_cases ha:∀ e∈L,e.s.length≤1000
 ·rw[if_pos ha] at O
  have LF:=O.fact' (ov:=zbt [(0,.slice xr L.length L.length),(2,.bool false),(3,iv 0)]) (by omega) ⟨by kernel_rfl,by kernel_rfl,trivial⟩
  by_cases hl:L.length≤60
  ·rw[dT ⟨ha,hl⟩]
   exact zBa h L.length n xr true LF (dT (by omega))
  ·rw[dF fun x=>hl x.2]
   exact zA9 h L.length n xr LF (dF (by omega))
 ·rw[if_neg ha] at O
  rw[dF fun x=>ha x.1]
  exact zBb h L.length n xr (O.fact2 (by omega) (by kernel_rfl))
/-! Texts, edits: the same. -/
abbrev XtL(n:Nat):=Loops En (RD n) 26 18446744073709551616 (sub [1,1,0,1,0,0] (zp Tryz.f9))
theorem zhF(cs:Vs)(hc:∀ v∈cs,∃ s,v= .string s)(hN:cs.length≤100)(lo:Nat)(ra rb:OA)(A:TxR h lo ra cs)(B:TxR h lo rb cs)(n:Nat):∀ (rest:Vs) (i:Nat),cs.drop i=rest→i+rest.length=cs.length→
  XtL n [(0,.slice ra cs.length cs.length),(1,.slice rb cs.length cs.length),(5,iv (i:Int))] h (.exit 0) [] h (rest.length+1)
 |[],i,hr,hi=>.out (zsk h cs.length i n ra rb (zE (by simp only[lN] at hi;omega)))
 |v::rest,i,hr,hi=>by
  rw[lC] at hi
  obtain⟨s,rfl⟩:=hc v (List.mem_of_mem_drop (hr▸List.mem_cons_self ..))
  have at_:∀ {r:OA},TxR h lo r cs→∃ q,r=some ⟨q,0,none⟩∧LD h 9 q (0+i * 1) (.string s):=fun T=>by
   rcases T with⟨_,rfl⟩|⟨q,rfl,_,hg⟩
   ·simp at hr
   ·exact⟨q,rfl,zG hg C9 (by rw[Nat.mul_one,Nat.zero_add,hr];rfl)⟩
  obtain⟨qa,rfl,la⟩:=at_ A
  obtain⟨qb,rfl,lb⟩:=at_ B
  have bd:=zve h qa qb cs.length i n s (by omega) (by omega) (zw (by omega)) la lb (by simp)
  exact .on bd (zhF cs hc hN lo _ _ A B n rest (i+1) (by rw[← List.drop_drop,hr];rfl) (by omega))
theorem ze7(cs:Vs)(hc:∀ v∈cs,∃ s,v= .string s)(hN:cs.length≤100)(lo lo2:Nat)(ra rb:OA)(A:TxR h lo ra cs)(B:TxR h lo2 rb cs)(n:Nat)(hn:1≤n):
  RD n 9 [.slice ra cs.length cs.length,.slice rb cs.length cs.length] h=some (.bool true,h):=by
 obtain⟨n,rfl⟩:=zs_ n
 have lw:∀ {lo:Nat} {r:OA},TxR h lo r cs→TxR h.fh 0 r cs:=fun T=>T.imp id fun⟨q,a,_,c⟩=>⟨q,a,Nat.zero_le _,c⟩
 have LL:=zhF (h:=h.fh) cs hc hN 0 ra rb (lw A) (lw B) n cs 0 rfl (by omega)
 exact zx0 h cs.length n ra rb (by simp) (LL.fact2 (by omega) (by kernel_rfl))
abbrev EeL(n:Nat):=Loops En (RD n) 27 18446744073709551616 (sub [1,1,0,1,0,0] (zp Tryz.f10))
theorem zuo(a b c d:Int):eqV 43 (.agg #[iv a,iv b,iv c,iv d]) (.agg #[iv a,iv b,iv c,iv d])=some (.bool true):=by
 have e:eqA En 20 43 (.agg #[iv a,iv b,iv c,iv d]) (.agg #[iv a,iv b,iv c,iv d])=(match(match some (a==a) with|some true=>(match some (b==b) with|some true=>some true|some false=>some false|none=>none)|some false=>some false|none=>none) with|some true=>(match(match some (c==c) with|some true=>(match some (d==d) with|some true=>some true|some false=>some false|none=>none)|some false=>some false|none=>none) with|some true=>some true|some false=>some false|none=>none)|some false=>some false|none=>none):=by kernel_rfl
 unfold eqV
 rw[e,beq_self_eq_true,beq_self_eq_true,beq_self_eq_true,beq_self_eq_true]
theorem zik(L:List Edt)(hN:L.length≤100)(lo:Nat)(ra rb:OA)(A:AR edL h lo ra L)(B:AR edL h lo rb L)(n:Nat)(hn:1≤n):∀ (rest:List Edt) (i:Nat),L.drop i=rest→i+rest.length=L.length→
  EeL n [(0,.slice ra L.length L.length),(1,.slice rb L.length L.length),(5,iv (i:Int))] h (.exit 0) [] h (rest.length+1)
 |[],i,hr,hi=>.out (zus h L.length i n ra rb (zE (by simp only[lN] at hi;omega)))
 |e::rest,i,hr,hi=>by
  rw[lC] at hi
  obtain⟨qa,_,_,_,rfl,ga⟩:=A.some hr
  obtain⟨qb,_,_,_,rfl,gb⟩:=B.some hr
  obtain⟨n',rfl⟩:=zs_ n
  have bd:=zxu h qa qb L.length i (n'+1) e.k e.r e.c e.a1 e.a2 e.a3 e.a4 ⟨⟨e.s⟩⟩ (by omega) (by omega) (zw (by omega)) (zha ga hr) (zha gb hr) (zxs h n' e.k e.r e.c e.a1 e.a2 e.a3 e.a4 ⟨⟨e.s⟩⟩ (by simp) (zj3 _ _) (zuo _ _ _ _) (by simp))
  exact .on bd (zik L hN lo _ _ A B (n'+1) hn rest (i+1) (by rw[← List.drop_drop,hr];rfl) (by omega))
theorem zl4(L:List Edt)(hN:L.length≤100)(lo:Nat)(ra rb:OA)(A:AR edL h lo ra L)(B:AR edL h lo rb L)(n:Nat)(hn:2≤n):
  RD n 10 [.slice ra L.length L.length,.slice rb L.length L.length] h=some (.bool true,h):=by
 obtain⟨n,rfl⟩:=zs_ n
 have LL:=zik (h:=h.fh) L hN lo ra rb A B n (by omega) L 0 rfl (by omega)
 exact zBt h L.length n ra rb (by simp) (LL.fact2 (by omega) (by kernel_rfl))
end
theorem zvL:SlT En 22 45 8 72:=⟨by kernel_rfl,by kernel_rfl,by kernel_rfl,⟨.agg #[iv 0,iv 0,iv 0,iv 0,iv 0,iv 0,iv 0,.string ⟨#[]⟩],by kernel_rfl,rfl⟩,by decide⟩
theorem zvK:SlT En 23 31 5 48:=⟨by kernel_rfl,by kernel_rfl,by kernel_rfl,⟨.agg #[iv 0,iv 0,iv 0,iv 0,.string ⟨#[]⟩],by kernel_rfl,rfl⟩,by decide⟩
section
variable {m:Int} {h:Heap}
theorem zmb{α:Type}{t e:TypeId}{sz by_:Nat}{f:α→Vs}(S:SlT En t e sz by_)(hf:∀ x,(f x).length=sz){lo:Nat}{r:OA}{L:List α}(A:AR f h lo r L)(hl:L.length≤200)(hb:by_≤100):
  ∃ r' h',zu En (al h e []) #[t,t] (sv h.nx 0 0 0) (.slice r L.length L.length)=some (.slice r' L.length L.length,h')∧Kp h h'∧AR f h' h'.nx r' L:=by
 have K0:Kp h (al h e []):=(Kp.refl h).al _ _
 have nx0:(al h e []).nx=h.nx+1:=rfl
 have z:∀ {x:Value},jA x=some 0→zY (al h e []) sz none x=some []→zu En (al h e []) #[t,t] (sv h.nx 0 0 0) x=some (sv h.nx 0 0 0,al h e []):=fun h1 h2=>zcU S h1 h2
 have hl:(2 * (0+L.length)+1000) * (by_+1)≤281474976710656:=nT (Nat.mul_le_mul (show _≤1400 by omega) (show _≤101 by omega)) (by decide)
 rcases A with⟨rfl,rfl⟩|⟨ib,t',es,ro,rfl,hib,hg⟩
 ·exact⟨some ⟨h.nx,0,none⟩,_,z rfl rfl,K0,.inr ⟨h.nx,e,0,false,rfl,by rw[nx0];omega,gN⟩⟩
 ·have hg':=kpg K0 _ _ hg
  have hlen:(L.flatMap f).length=L.length * sz:=by
   have:∀ L:List α,(L.flatMap f).length=L.length * sz:=fun L=>by
    induction L with
    |nil=>simp
    |cons x L ih=>rw[List.flatMap_cons,lA,hf,ih,lC,Nat.succ_mul];omega
   exact this L
  by_cases h0:L.length=0
  ·have:L=[]:=List.eq_nil_of_length_eq_zero h0
   subst this
   exact⟨some ⟨h.nx,0,none⟩,_,z rfl (by simp[zY,hg']),K0,.inr ⟨h.nx,e,0,false,rfl,by rw[nx0];omega,gN⟩⟩
  ·have ap:=zeg (l:=0) (n:=L.length) (c:=L.length) S (gN (h:=h)) (by simp) hg' (by rw[List.drop_zero];exact List.take_of_length_le (by omega)) hlen (by omega) hl
   rw[Nat.zero_add] at ap
   refine⟨_,_,ap,?_,?_⟩
   ·exact⟨by rw[zt,nx0];omega,fun c hc=>(zm _ _ (by rw[nx0];omega)).trans (K0.get c hc),by rw[zl];exact K0.wm⟩
   ·exact .inr ⟨_,e,sz,false,rfl,nS _,zb _ _⟩
theorem AR.le{α:Type}{f:α→Vs}{lo lo':Nat}{r:OA}{L:List α}(A:AR f h lo r L)(l:lo≤lo'):AR f h lo' r L:=
 A.imp id fun⟨q,t,es,ro,a,b,c⟩=>⟨q,t,es,ro,a,nU b l,c⟩
theorem AR.kp{α:Type}{f:α→Vs}{g:Heap}{lo:Nat}{r:OA}{L:List α}(A:AR f h lo r L)(K:Kp h g)(l:lo≤h.nx):AR f g g.nx r L:=
 (A.mono fun c hc=>K.get c (nU hc l)).le (nT l K.nx)
theorem zgS:∀ {rest:List Edt} {acc cs:Vs},uh rest acc= .ok cs→(∀ v∈acc,∃ s,v= .string s)→(∀ v∈cs,∃ s,v= .string s)∧cs.length=acc.length+rest.length
 |[],acc,cs,e,ha=>by cases e;exact⟨ha,rfl⟩
 |x::rest,acc,cs,e,ha=>by
  unfold uh at e
  split at e
  ·cases e
  ·have:=zgS e (fun v hv=>by
    rcases List.mem_append.1 hv with hv|hv
    ·exact ha v hv
    ·exact⟨_,List.mem_singleton.1 hv⟩)
   refine⟨this.1,this.2.trans ?_⟩
   rw[lA,lC,lC,lN];omega
theorem zlF(L:List Edt)(hN:L.length≤60):(∀ v∈(qd L).2,∃ s,v= .string s)∧(qd L).2.length≤100:=by
 unfold qd
 split
 next cs e=>
  have:=zgS e (by simp)
  exact⟨this.1,by rw[this.2];simp only[lN];omega⟩
 ·exact⟨by simp,by simp⟩
abbrev DlL(n:Nat):=Loops En (RD n) 73 18446744073709551616 (sub [1,1,0,1,0,0] (zp Tryz.f3))
theorem zin(V:List Ent)(hN:V.length≤100)(lo:Nat)(rl rv:OA)(N:Nat)(A:AR enL h lo rv V)(n:Nat)(hn:1≤n)(G:Gl m h):∀ (rest:List Ent) (i:Nat),V.drop i=rest→i+rest.length=V.length→
  ∃ R,R≤rest.length+1∧if(∀ e∈rest,e.s.length≤1000) then DlL n [(0,.slice rl N N),(1,.slice rv V.length V.length),(5,iv (i:Int))] h (.exit 0) [(0,.slice rl N N),(1,.slice rv V.length V.length)] h R else DlL n [(0,.slice rl N N),(1,.slice rv V.length V.length),(5,iv (i:Int))] h .ret [(4,.bool true)] h R
 |[],i,hr,hi=>by
  refine⟨1,nL_ _,?_⟩
  rw[if_pos (by simp)]
  exact .out (zuv h N V.length i n rl rv (zE (by simp only[lN] at hi;omega)))
 |e::rest,i,hr,hi=>by
  obtain⟨ib,t,es,ro,rfl,hg⟩:=A.some hr
  rw[lC] at hi
  have fm:=List.forall_mem_cons (p:=fun e:Ent=>e.s.length≤1000) (a:=e) (l:=rest)
  by_cases hs:e.s.length≤1000
  ·obtain⟨R,hR,O⟩:=zin V hN lo rl _ N A n hn G rest (i+1) (by rw[← List.drop_drop,hr];rfl) (by omega)
   have bd:=zxy h N V.length ib i n rl ⟨⟨e.s⟩⟩ (by omega) (by omega) (zw (by omega)) (zuq hg hr) (zR (by show ¬ 1000 < e.s.length;omega))
   refine⟨R+1,by rw[lC];omega,?_⟩
   by_cases ha:∀ e∈rest,e.s.length≤1000
   ·rw[if_pos ha] at O
    rw[if_pos (fm.2 ⟨hs,ha⟩)]
    exact .on bd O
   ·rw[if_neg ha] at O
    rw[if_neg fun x=>ha (fm.1 x).2]
    exact .on bd O
  ·refine⟨1,by omega,?_⟩
   rw[if_neg fun x=>hs (fm.1 x).1]
   exact .ret (zxz h N V.length ib i n rl ⟨⟨e.s⟩⟩ (by omega) (by omega) (zw (by omega)) (zuq hg hr) (wj (by show 1000 < e.s.length;omega)) (zgC G n hn))
theorem zl5(L:List Edt)(V:List Ent)(rl rv:OA)(hL:L.length < 9223372036854775808)(hv:∀ e∈V,-9223372036854775808≤e.v∧e.v≤9223372036854775807)(A:AR edL h h.nx rl L)(B:AR enL h h.nx rv V)(n:Nat)(hn:1507≤n)(G:Gl m h):
  ∃ h',RD n 3 [.slice rl L.length L.length,.slice rv V.length V.length] h=some (.bool true,h')∧Kp h h':=by
 obtain⟨n,rfl⟩:=zs_ n
 have pure:∀ {X:Option (Value×Heap)},X=some (.bool true,h)→∃ h',X=some (.bool true,h')∧Kp h h':=fun e=>⟨h,e,Kp.refl h⟩
 have f5:=zoE (h:=h.fh) L hL rl A n (by omega)
 have six:∀ g,Gl m g→RD n 6 [] g=some (.bool true,g):=fun g G=>zgC G n (by omega)
 by_cases hf:(∀ e∈L,e.s.length≤1000)∧L.length≤60
 case neg=>
  rw[dF hf] at f5
  exact pure (zBA h L.length V.length n rl rv f5 (six _ G.fh))
 rw[dT hf] at f5
 by_cases hm:V.length≤100
 case neg=>exact pure (zBz h L.length V.length n rl rv f5 (wj (a:=V.length) (b:=100) (by omega)) (six _ G.fh))
 have hm':=zR (a:=V.length) (b:=100) (by omega)
 obtain⟨R,hR,O⟩:=zin (h:=h.fh) V hm h.nx rl rv L.length B n (by omega) G.fh V 0 rfl (by omega)
 by_cases hs:∀ e∈V,e.s.length≤1000
 case neg=>
  rw[if_neg hs] at O
  exact pure (zBx h L.length V.length n rl rv f5 hm' (O.fact2 (by omega) (by kernel_rfl)))
 rw[if_pos hs] at O
 have ok:∀ e∈V,e.ok:=fun e he=>⟨hs e he,hv e he⟩
 have hG:=G.nx
 obtain⟨r0,h1,e3,K1,A1⟩:=zmb (h:=h.fh) (f:=edL) zvL (fun _=>rfl) A (by omega) (by decide)
 have G1:Gl m h1:=G.fh.sm (K1.sm (nL_ _)) hG
 obtain⟨h2,ra,e7,K2,T2⟩:=zlE L hf.1 hf.2 r0 A1 n (by omega) G1
 have hG1:=G1.nx
 have G2:Gl m h2:=G1.sm (K2.sm (nL_ _)) hG1
 have K12:=K1.trans K2
 obtain⟨h3,rb,e8,K3,T3⟩:=zjP L hf.1 hf.2 rl (A.kp (h:=h.fh) K12 (nL_ _)) n (by omega) G2
 have G3:Gl m h3:=G2.sm (K3.sm (nL_ _)) G2.nx
 have K13:=K12.trans K3
 obtain⟨t1,t2⟩:=zlF L hf.2
 have e9:=ze7 (h:=h3) (qd L).2 t1 t2 _ _ ra rb (T2.mono (kpg K3)) T3 n (by omega)
 have e10:=zl4 (h:=h3) L (by omega) h3.nx r0 rl ((A1.kp K2 (nL_ _)).kp K3 (nL_ _)) (A.kp (h:=h.fh) K13 (nL_ _)) n (by omega)
 have B3:=B.kp (h:=h.fh) K13 (nL_ _)
 obtain⟨r1,h4,e4,K4,B4⟩:=zmb (h:=h3) (f:=enL) zvK (fun _=>rfl) B3 (by omega) (by decide)
 have G4:Gl m h4:=G3.sm (K4.sm (nL_ _)) G3.nx
 obtain⟨h5,ta,e11,K5,T5⟩:=zkH V ok hm r1 B4 n (by omega) G4
 have G5:Gl m h5:=G4.sm (K5.sm (nL_ _)) G4.nx
 obtain⟨h6,tb,e12,K6,T6⟩:=zi1 V ok hm rv ((B3.kp K4 (nL_ _)).kp K5 (nL_ _)) n (by omega) G5
 have G6:Gl m h6:=G5.sm (K6.sm (nL_ _)) G5.nx
 have e13:=ze7 (h:=h6) (V.map qk) (fun v hv=>by obtain⟨e,_,rfl⟩:=List.mem_map.1 hv;exact⟨_,rfl⟩) (by rw[List.length_map];omega) _ _ ta tb (T5.mono (kpg K6)) T6 n (by omega)
 exact⟨_,PanE.fin (zBy h h1 h2 h3 h4 h5 h6 L.length V.length n _ 0 0 _ 0 _ rl rv r0 ra rb r1 ta tb f5 hm' (O.fact2 (by omega) (by kernel_rfl)) e3 e7 e8 e9 (by simp) e10 e4 e11 e12 e13 (six _ G6)),(((K13.trans K4).trans K5).trans K6).fin⟩
end
end Go.PanE
