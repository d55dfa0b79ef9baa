/-
 Part 33 of the proof of Rows.DumpReadsCardSaid: The parser of the first text: parts, and the levels. No conditions but what addr.Parse makes of a name.
 How large and how deep trees are.
 depth: paths printed by sx.py (m15.py).
 depth: its law.
 tree.parsed and tree.Parse: paths printed by sx.py (m16.py).
 tree.Parse: its law. No conditions but what addr.Parse makes of a name.
 tree.parsed and tree.Parse: their laws. No conditions but what addr.Parse makes of a name.
-/
import Derived.Test.YtihkphfmnnndfaaGreatDoorT32
namespace Go.PanE
open Go.Proofs
section
variable {m:Int} {p b:Nat} {ts:List Tk} {E:Nat} {A:List UInt8→Option (Nat×Nat)} {N0:Nat}
theorem eqK{x k:Nat}(h:x=k):(((x:Nat):Int)==(k:Int))=true:=by rw[eqN];exact decide_eq_true h
theorem neK{x k:Nat}(h:x≠k):(((x:Nat):Int)==(k:Int))=false:=by rw[eqN];exact decide_eq_false h
theorem res_put{h:Heap}{k:Nat}(x:Hd){X:Option (Value×Heap)}{H:Heap}(e:X=some (finish h (.tuple #[ndV x none 0,.nilIface]) H))(s:PSt m h p b ts E k)(hk:k+1≤ts.length)
  (g:∀ c,c < h.nx→c≠p→H.get c=h.get c) (nH:h.nx≤H.nx) (wp:H.wm≤p) (w:H.get p=some (.row 274 [tsV b ts,iv (((k:Nat):Int)+1),iv E] 0 false)):
  ∃ v h',X=some (v,h')∧ResA m h p b ts E (.ok (.node x []) (k+1)) v h':=by
 have hp:=s.lt
 have s1:PSt m (pt h p 274 [tsV b ts,iv (((k:Nat):Int)+1),iv E]) p b ts E (k+1):=s.fr (Fr.put _ _ _ (by omega)) (Heap.get_put_same _ _ _ (by omega)) hk
 refine res_ok2 (x:=x) (r:=none) (l:=0) (lo:=h.nx) e s (hk:=pt h p 274 [tsV b ts,iv (((k:Nat):Int)+1),iv E]) (Fr.of_wm' (Fr.put h p _ hp)) (fun c hc hd=>?_) nH (Nat.le_refl _) (NodeC.leaf _ _ _) s1 wp
 have hc':c < h.nx:=hc
 by_cases hcp:c=p
 ·subst hcp;exact w.trans (Heap.get_put_same _ _ _ hp).symm
 ·exact(g c hc' hcp).trans (Heap.get_put_other _ _ _ _ hp hcp).symm
theorem part_law(hA:AdrA m A N0)(hlen:∀ x∈ts,x.t.length≤4000){f:PR}{d N:Nat}(hd:d≤40)(hf:LawA m p b ts E N 176 (d+1) f)(hN:3≤N)(hN0:N0+4≤N):LawA m p b ts E (N+3) 248 d (partP ts E A f):=by
 intro n h k hn s
 obtain⟨n,rfl⟩:∃ m,n=m+1:=⟨n - 1,by omega⟩
 have K0:Kp h.fresh (al h.fresh 72 z72):=(Kp.refl _).al 72 z72
 have hp:=s.lt
 have hT:=s.tT
 have g0:(al h.fresh 72 z72).get h.nx=some (.row 72 z72 0 false):=gN (h:=h.fresh)
 unfold partP
 by_cases hk:k < ts.length
 ·obtain⟨x,hx⟩:=s.get hk
  rw[hx]
  simp only
  have hbl:=Heap.lt_of_get (s.some_b hk)
  have e0:(((k:Nat):Int)==(ts.length:Int))=false:=eq_dec' (by omega)
  have KR:Kp h.fresh (reserve 1 (al h.fresh 72 z72)):=⟨by rw[Heap.nx_reserve];show h.nx≤h.nx+1+1;omega,fun c hc=>(Heap.get_reserve 1 _ (Nat.lt_succ_of_lt hc)).trans (K0.get c hc),by rw[Heap.wm_reserve];exact K0.wm⟩
  have nR:(reserve 1 (al h.fresh 72 z72)).nx=h.nx+2:=by rw[Heap.nx_reserve];rfl
  have KZ:=(KR.pt (b:=h.nx+1) 199 [iv 0,iv 0,.string ⟨#[]⟩,iv 0] (by show h.nx≤h.nx+1;omega) (by omega)).pt (b:=h.nx+1) 199 [iv (x.k:Int),iv (x.n:Int),.string ⟨⟨x.t⟩⟩,iv (x.at_:Int)] (by show h.nx≤h.nx+1;omega) (by show h.nx+1 < (reserve 1 (al h.fresh 72 z72)).nx;omega)
  have nZ:(pt (pt (reserve 1 (al h.fresh 72 z72)) (h.nx+1) 199 [iv 0,iv 0,.string ⟨#[]⟩,iv 0]) (h.nx+1) 199 [iv (x.k:Int),iv (x.n:Int),.string ⟨⟨x.t⟩⟩,iv (x.at_:Int)]).nx=h.nx+2:=nR
  have gZ:(pt (pt (reserve 1 (al h.fresh 72 z72)) (h.nx+1) 199 [iv 0,iv 0,.string ⟨#[]⟩,iv 0]) (h.nx+1) 199 [iv (x.k:Int),iv (x.n:Int),.string ⟨⟨x.t⟩⟩,iv (x.at_:Int)]).get h.nx=some (.row 72 z72 0 false):=gO (gO (gR g0) (by omega) (by omega)) (by show h.nx+1 < (reserve 1 (al h.fresh 72 z72)).nx;omega) (by omega)
  have sZ:=s.fresh.kp KZ
  by_cases h1:x.k=1
  ·rw[if_pos h1]
   obtain⟨H,e,g,nx,wm,wp,w⟩:=pa_num h p b k ts.length E d ts x n (s.pp' hk) (s.some_b hk) hx hk (by omega) hp hbl e0 (eqK (k:=1) h1)
   exact res_put (hdVal 2 x.n []) e s (by omega) g (by omega) wp (by rw[w,tsV_some hk])
  rw[if_neg h1]
  have e1:=neK (k:=1) h1
  by_cases h2:x.k=2
  ·rw[if_pos h2]
   have e2:=eqK (k:=2) h2
   have eof:=of_law x.t (pt (pt (reserve 1 (al h.fresh 72 z72)) (h.nx+1) 199 [iv 0,iv 0,.string ⟨#[]⟩,iv 0]) (h.nx+1) 199 [iv (x.k:Int),iv (x.n:Int),.string ⟨⟨x.t⟩⟩,iv (x.at_:Int)]) n (by omega)
   by_cases hl:x.t.length≤200
   ·rw[if_pos hl] at eof ⊢
    obtain⟨H,e,g,nx,wm,wp,w⟩:=pa_str h p b k ts.length E d ts x n (s.pp' hk) (s.some_b hk) hx hk (by omega) hp hbl e0 e1 e2 eof
    exact res_put (hdVal 3 0 x.t) e s (by omega) g (by omega) wp (by rw[w,tsV_some hk])
   ·rw[if_neg hl] at eof ⊢
    have K2:=(KZ.al 27 [iv 0,iv 0,.string ⟨#[]⟩]).pt (b:=h.nx+2) 27 [iv 4,iv 7,.string ⟨#[]⟩] (by show h.nx≤h.nx+2;omega) (by show h.nx+2 < _+1;rw[nZ];omega)
    obtain⟨h3,e3,K3,n3,g3⟩:=fail_law (s.fresh.kp K2) n (by omega)
    have K23:=K2.trans K3
    have g30:h3.get h.nx=some (.row 72 z72 0 false):=(K3.get _ (by show h.nx < _+1;rw[nZ];omega)).trans (gO (gA gZ) (by show h.nx+2 < _+1;rw[nZ];omega) (by omega))
    have n2:h.nx+3≤h3.nx:=by
     have:h3.nx=(al (pt (pt (reserve 1 (al h.fresh 72 z72)) (h.nx+1) 199 [iv 0,iv 0,.string ⟨#[]⟩,iv 0]) (h.nx+1) 199 [iv (x.k:Int),iv (x.n:Int),.string ⟨⟨x.t⟩⟩,iv (x.at_:Int)]) 27 [iv 0,iv 0,.string ⟨#[]⟩]).nx+1:=n3
     rw[this,Heap.nx_alloc,nZ];omega
    have nq:(pt (al (pt (pt (reserve 1 (al h.fresh 72 z72)) (h.nx+1) 199 [iv 0,iv 0,.string ⟨#[]⟩,iv 0]) (h.nx+1) 199 [iv (x.k:Int),iv (x.n:Int),.string ⟨⟨x.t⟩⟩,iv (x.at_:Int)]) 27 [iv 0,iv 0,.string ⟨#[]⟩]) (h.nx+2) 27 [iv 4,iv 7,.string ⟨#[]⟩]).nx=h.nx+3:=by rw[Heap.nx_put,Heap.nx_alloc,nZ]
    obtain⟨H,e,g,nx,_⟩:=pa_long h h3 p b k ts.length E d _ ts x n (s.pp' hk) (s.some_b hk) hx hk (by omega) hp hbl g30 (by omega) e0 e1 e2 eof e3
    exact res_err (lo:=h.nx+1) e s (K23.fr p) (fun c hc hd=>g c hc (by omega)) (by omega) (by omega) (by omega) g3 (s.fresh.kp K23)
  rw[if_neg h2]
  have e2:=neK (k:=2) h2
  by_cases h3:x.k=3
  ·rw[if_pos h3]
   have e3:=eqK (k:=3) h3
   obtain⟨v1,h1',en,F1,_,R1⟩:=name_law hA hlen hd hf hN hN0 n (by omega) _ k x sZ hx h3
   have l1:=F1.nx
   have g1:=(F1.get h.nx (by omega) (by omega)).trans gZ
   have T1:=(KZ.fr p).trans F1
   split at R1
   next t k' e=>
    obtain⟨y,r,l,rfl,N1,s1,wp⟩:=R1
    obtain⟨H,eb,g,nx,wm,_⟩:=pa_na h h1' p b k ts.length E d ts x n y r l (s.pp' hk) (s.some_b hk) hx hk (by omega) hp hbl g1 (by omega) e0 e1 e2 e3 en
    rw[e]
    exact res_ok (lo:=h.nx+1) eb s T1 (fun c hc hd=>g c hc (by omega)) (by omega) (by omega) (N1.mono (by omega) (Nat.le_refl _) fun _ _ _ _ e=>e) (Nat.le_refl _) s1 (by omega)
   next pos c e=>
    obtain⟨q,k',rfl,hq,gq,s1⟩:=R1
    obtain⟨H,eb,g,nx,_⟩:=pa_ne h h1' p b k ts.length E d q ts x n (s.pp' hk) (s.some_b hk) hx hk (by omega) hp hbl g1 (by omega) e0 e1 e2 e3 en
    rw[e]
    exact res_err (lo:=h.nx+1) eb s T1 (fun c hc hd=>g c hc (by omega)) (by omega) (by omega) (by omega) gq s1
  rw[if_neg h3]
  have e3:=neK (k:=3) h3
  by_cases h4:x.k=4
  ·rw[if_pos h4]
   have e4:=eqK (k:=4) h4
   have KY:=KZ.al 9 [.string ⟨#[40]⟩]
   have gY:=gA (t:=9) (cs:=[.string ⟨#[40]⟩]) gZ
   have sY:=s.fresh.kp KY
   have nY:(al (pt (pt (reserve 1 (al h.fresh 72 z72)) (h.nx+1) 199 [iv 0,iv 0,.string ⟨#[]⟩,iv 0]) (h.nx+1) 199 [iv (x.k:Int),iv (x.n:Int),.string ⟨⟨x.t⟩⟩,iv (x.at_:Int)]) 9 [.string ⟨#[40]⟩]).nx=h.nx+3:=by rw[Heap.nx_alloc,nZ]
   have gq:(al (pt (pt (reserve 1 (al h.fresh 72 z72)) (h.nx+1) 199 [iv 0,iv 0,.string ⟨#[]⟩,iv 0]) (h.nx+1) 199 [iv (x.k:Int),iv (x.n:Int),.string ⟨⟨x.t⟩⟩,iv (x.at_:Int)]) 9 [.string ⟨#[40]⟩]).get (h.nx+2)=some (.row 9 [.string ⟨#[40]⟩] 0 false):=by rw[← nZ];exact gN
   obtain⟨v1,h5,e5,S5⟩:=sign_law (ops:=[[40]]) sY n (by omega) gq (by decide)
   unfold SgTo at S5
   by_cases ht:x.t=[40]
   ·rw[if_pos ht]
    have hs:sg ts [[40]] k=some x.t:=by unfold sg;rw[hx];simp[h4,ht]
    rw[hs] at S5
    obtain⟨rfl,F5,n5,s5,w5,wp5⟩:=S5
    have n5':h5.nx=h.nx+3:=n5.trans nY
    obtain⟨v6,h6,e6,F6,_,R6⟩:=within_law hd hf hN n h5 (k+1) (by omega) s5
    have l6:=F6.nx
    have g6:h6.get h.nx=some (.row 72 z72 0 false):=(F6.get _ (by omega) (by omega)).trans ((F5.get _ (by omega) (by omega)).trans gY)
    have T6:=((KY.fr p).trans F5).trans F6
    change ∃ v h',RD (n+1) 248 [pv p 0,iv ((d:Nat):Int)] h=some (v,h')∧ResA m h p b ts E (withP ts E f (k+1)) v h'
    split at R6
    next t k' e=>
     obtain⟨y,r,l,rfl,N1,s1,wp⟩:=R6
     obtain⟨H,eb,g,nx,wm,_⟩:=pa_in h h5 h6 p b k ts.length E d x.t ts x n y r l (s.pp' hk) (s.some_b hk) hx hk (by omega) hp hbl g6 (by omega) e0 e1 e2 e3 e4 e5 e6
     rw[e]
     exact res_ok (lo:=h.nx+1) eb s T6 (fun c hc hd=>g c hc (by omega)) (by omega) (by omega) (N1.mono (by omega) (Nat.le_refl _) fun _ _ _ _ e=>e) (Nat.le_refl _) s1 (by omega)
    next pos c e=>
     obtain⟨q,k',rfl,hq,gq,s1⟩:=R6
     obtain⟨H,eb,g,nx,_⟩:=pa_ie h h5 h6 p b k ts.length E d q x.t ts x n (s.pp' hk) (s.some_b hk) hx hk (by omega) hp hbl g6 (by omega) e0 e1 e2 e3 e4 e5 e6
     rw[e]
     exact res_err (lo:=h.nx+1) eb s T6 (fun c hc hd=>g c hc (by omega)) (by omega) (by omega) (by omega) gq s1
   ·rw[if_neg ht]
    have hs:sg ts [[40]] k=none:=by unfold sg;rw[hx];simp[ht]
    rw[hs] at S5
    obtain⟨rfl,rfl⟩:=S5
    obtain⟨h7,e7,K7,n7,g7⟩:=fail_law sY n (by omega)
    obtain⟨H,e,g,nx,_⟩:=pa_no h h7 p b k ts.length E d _ ts x n (s.pp' hk) (s.some_b hk) hx hk (by omega) hp hbl ((K7.get _ (by omega)).trans gY) (by omega) e0 e1 e2 e3 e4 e5 e7
    exact res_err (lo:=h.nx+1) e s ((KY.trans K7).fr p) (fun c hc hd=>g c hc (by omega)) (by omega) (by omega) (by omega) g7 (sY.kp K7)
  ·rw[if_neg h4]
   have e4:=neK (k:=4) h4
   obtain⟨h7,e7,K7,n7,g7⟩:=fail_law sZ n (by omega)
   obtain⟨H,e,g,nx,_⟩:=pa_ot h h7 p b k ts.length E d _ ts x n (s.pp' hk) (s.some_b hk) hx hk (by omega) hp hbl ((K7.get _ (by omega)).trans gZ) (by omega) e0 e1 e2 e3 e4 e7
   exact res_err (lo:=h.nx+1) e s ((KZ.trans K7).fr p) (fun c hc hd=>g c hc (by omega)) (by omega) (by omega) (by omega) g7 (sZ.kp K7)
 ·have hkT:=s.kT
  rw[List.getElem?_eq_none (by omega)]
  simp only
  have s0:=s.fresh.kp K0
  obtain⟨h7,e7,K7,n7,g7⟩:=fail_law s0 n (by omega)
  obtain⟨H,e,g,nx,_⟩:=pa_end h h7 p k ts.length E d _ (tsR b ts) n s.pp hp ((K7.get _ (Nat.lt_succ_self _)).trans g0) (Nat.lt_of_lt_of_le (Nat.lt_succ_self _) K7.nx) (eq_dec (by omega)) e7
  exact res_err (lo:=h.nx+1) e s ((K0.trans K7).fr p) (fun c hc hd=>g c hc (by omega)) (by omega) (by omega) (Nat.le_refl _) g7 (s0.kp K7)
theorem LawA.mono{N M:Nat}{f:FuncId}{d:Nat}{R:PR}(L:LawA m p b ts E N f d R)(h:N≤M):LawA m p b ts E M f d R:=fun n g k hn s=>L n g k (by omega) s
theorem deep_fo(d:Nat)(hd:40 < d):LawA m p b ts E 3 176 d (fun _=>.err 0 14):=by
 intro n h k hn s
 obtain⟨n,rfl⟩:∃ m,n=m+1:=⟨n - 1,by omega⟩
 have K0:Kp h.fresh (al h.fresh 72 z72):=(Kp.refl _).al 72 z72
 have g0:(al h.fresh 72 z72).get h.nx=some (.row 72 z72 0 false):=gN (h:=h.fresh)
 have s0:=s.fresh.kp K0
 obtain⟨h1,e1,K1,n1,g1⟩:=deep_err (al h.fresh 72 z72) d n (by omega) hd
 have ga:=(K1.get _ (Nat.lt_succ_self _)).trans g0
 have la:=Nat.lt_of_lt_of_le (Nat.lt_succ_self h.nx) K1.nx
 obtain⟨H,e,g,nx,_⟩:=fo_deep h h1 p d _ n ga la e1
 exact res_err (lo:=h.nx+1) e s ((K0.trans K1).fr p) (fun c hc hd=>g c hc (by omega)) (by omega) (by omega) (Nat.le_refl _) g1 (s0.kp K1)
theorem deep_pw(d:Nat)(hd:40 < d):LawA m p b ts E 3 231 d (fun _=>.err 0 14):=by
 intro n h k hn s
 obtain⟨n,rfl⟩:∃ m,n=m+1:=⟨n - 1,by omega⟩
 have K0:Kp h.fresh (al h.fresh 72 z72):=(Kp.refl _).al 72 z72
 have g0:(al h.fresh 72 z72).get h.nx=some (.row 72 z72 0 false):=gN (h:=h.fresh)
 have s0:=s.fresh.kp K0
 obtain⟨h1,e1,K1,n1,g1⟩:=deep_err (al h.fresh 72 z72) d n (by omega) hd
 have ga:=(K1.get _ (Nat.lt_succ_self _)).trans g0
 have la:=Nat.lt_of_lt_of_le (Nat.lt_succ_self h.nx) K1.nx
 obtain⟨H,e,g,nx,_⟩:=pw_deep h h1 p d _ n ga la e1
 exact res_err (lo:=h.nx+1) e s ((K0.trans K1).fr p) (fun c hc hd=>g c hc (by omega)) (by omega) (by omega) (Nat.le_refl _) g1 (s0.kp K1)
theorem deep_una(d:Nat)(hd:40 < d):LawA m p b ts E 3 239 d (fun _=>.err 0 14):=by
 intro n h k hn s
 obtain⟨n,rfl⟩:∃ m,n=m+1:=⟨n - 1,by omega⟩
 have K0:Kp h.fresh (al h.fresh 72 z72):=(Kp.refl _).al 72 z72
 have g0:(al h.fresh 72 z72).get h.nx=some (.row 72 z72 0 false):=gN (h:=h.fresh)
 have s0:=s.fresh.kp K0
 obtain⟨h1,e1,K1,n1,g1⟩:=deep_err (al h.fresh 72 z72) d n (by omega) hd
 have ga:=(K1.get _ (Nat.lt_succ_self _)).trans g0
 have la:=Nat.lt_of_lt_of_le (Nat.lt_succ_self h.nx) K1.nx
 obtain⟨H,e,g,nx,_⟩:=una_deep h h1 p d _ n ga la e1
 exact res_err (lo:=h.nx+1) e s ((K0.trans K1).fr p) (fun c hc hd=>g c hc (by omega)) (by omega) (by omega) (Nat.le_refl _) g1 (s0.kp K1)
/-- The levels of the parser. -/
theorem lv_law(hA:AdrA m A N0)(hlen:∀ x∈ts,x.t.length≤4000):∀ e,e≤41→
  LawA m p b ts E (N0+10+10 * e) 176 (41 - e) (lv ts E A e).form∧LawA m p b ts E (N0+10+10 * e) 231 (41 - e) (lv ts E A e).pow∧LawA m p b ts E (N0+10+10 * e) 239 (41 - e) (lv ts E A e).un:=by
 intro e
 induction e with
 |zero=>
  intro _
  exact⟨(deep_fo _ (by omega)).mono (by omega),(deep_pw _ (by omega)).mono (by omega),(deep_una _ (by omega)).mono (by omega)⟩
 |succ e ih=>
  intro he
  obtain⟨i1,i2,i3⟩:=ih (by omega)
  obtain⟨d,hd⟩:∃ d,41 - (e+1)=d:=⟨_,rfl⟩
  have hd1:41 - e=d+1:=by omega
  rw[hd1] at i1 i2 i3
  rw[hd]
  have hpr:=lv_prog ts E A e
  have L1:=part_law hA hlen (d:=d) (by omega) i1 (by omega) (by omega)
  have L2:=unary_law (d:=d) (by omega) L1 (i3.mono (by omega)) (by omega)
  have L3:=power_law (d:=d) (by omega) L2 (i2.mono (by omega)) (by omega)
  have hu:=unP_prog ts (partP_prog ts E A hpr.1) hpr.2.2
  have hw:=powP_prog ts hu hpr.2.1
  have L4:=product_law L3 hw (by omega)
  have L5:=sum_law L4 (rowP_prog ts hw) (by omega)
  have L6:=formula_law (d:=d) (by omega) L5 (by omega)
  exact⟨L6.mono (by omega),L3.mono (by omega),L2.mono (by omega)⟩
end
end Go.PanE
namespace Go.PanE
open Go.Proofs
mutual
def Tr.size:Tr→Nat
 | .node _ l=>1+Tr.sizes l
def Tr.sizes:List Tr→Nat
 |[]=>0
 |t::l=>t.size+Tr.sizes l
end
mutual
def Tr.depth:Tr→Nat
 | .node _ l=>Tr.depths l+1
def Tr.depths:List Tr→Nat
 |[]=>0
 |t::l=>max t.depth (Tr.depths l)
end
mutual
theorem Tr.depth_size:∀ t:Tr,t.depth≤t.size
 | .node _ l=>by
  unfold Tr.depth Tr.size
  have:=Tr.depths_sizes l
  omega
theorem Tr.depths_sizes:∀ l:List Tr,Tr.depths l≤Tr.sizes l
 |[]=>by unfold Tr.depths Tr.sizes;exact Nat.le_refl _
 |t::l=>by
  unfold Tr.depths Tr.sizes
  have:=Tr.depth_size t
  have:=Tr.depths_sizes l
  omega
end
theorem Tr.size_pos:∀ t:Tr,1≤t.size
 | .node _ l=>by unfold Tr.size;omega
theorem Tr.length_sizes(l:List Tr):l.length≤Tr.sizes l:=by
 induction l with
 |nil=>simp
 |cons t l ih=>
  have:=Tr.size_pos t
  simp only[List.length_cons,Tr.sizes];omega
theorem Tr.sizes_append(a:List Tr)(b:List Tr):Tr.sizes (a++b)=Tr.sizes a+Tr.sizes b:=by
 induction a with
 |nil=>show Tr.sizes b=_;simp[Tr.sizes]
 |cons t a ih=>show Tr.sizes (t::(a++b))=_;simp only[Tr.sizes,ih];omega
theorem Tr.size_two(s:List UInt8)(x y:Tr):(twoT s x y).size=1+x.size+y.size:=by
 simp only[twoT,Tr.size,Tr.sizes];omega
section
variable (ts:List Tk) (E:Nat) (A:List UInt8→Option (Nat×Nat))
/-- A tree has no more nodes than it has taken tokens. -/
def Sml(f:PR):Prop:=∀ k t k',f k= .ok t k'→t.size+k≤k'
theorem rowF_sml{ops:List (List UInt8)}{f:PR}(hf:Sml f):∀ (i:Nat) (x:Tr) (k:Nat) (t:Tr) (k':Nat),rowF ts ops f i x k= .ok t k'→t.size+k≤k'+x.size:=by
 intro i
 induction i with
 |zero=>intro x k t k' h;simp only[rowF,Res.ok.injEq] at h;obtain⟨rfl,rfl⟩:=h;omega
 |succ i ih=>
  intro x k t k' h
  simp only[rowF] at h
  split at h
  ·simp only[Res.ok.injEq] at h;obtain⟨rfl,rfl⟩:=h;omega
  ·split at h
   ·cases h
   next y k1 e=>
    have:=hf _ _ _ e
    have:=ih _ _ _ _ h
    rw[Tr.size_two] at this
    omega
theorem rowP_sml{ops:List (List UInt8)}{f:PR}(hf:Sml f):Sml (rowP ts ops f):=by
 intro k t k' h
 simp only[rowP] at h
 split at h
 ·cases h
 next x k1 e=>
  have:=hf _ _ _ e
  have:=rowF_sml ts hf _ _ _ _ _ h
  omega
theorem formP_sml{f:PR}(hf:Sml f):Sml (formP ts f):=by
 intro k t k' h
 simp only[formP] at h
 split at h
 ·cases h
 next x k1 e=>
  have:=hf _ _ _ e
  split at h
  ·simp only[Res.ok.injEq] at h;obtain⟨rfl,rfl⟩:=h;omega
  ·split at h
   ·cases h
   next y k2 e2=>
    have:=hf _ _ _ e2
    simp only[Res.ok.injEq] at h;obtain⟨rfl,rfl⟩:=h
    rw[Tr.size_two];omega
theorem powP_sml{f g:PR}(hf:Sml f)(hg:Sml g):Sml (powP ts f g):=by
 intro k t k' h
 simp only[powP] at h
 split at h
 ·cases h
 next x k1 e=>
  have:=hf _ _ _ e
  split at h
  ·simp only[Res.ok.injEq] at h;obtain⟨rfl,rfl⟩:=h;omega
  ·split at h
   ·cases h
   next y k2 e2=>
    have:=hg _ _ _ e2
    simp only[Res.ok.injEq] at h;obtain⟨rfl,rfl⟩:=h
    rw[Tr.size_two];omega
theorem unP_sml{f g:PR}(hf:Sml f)(hg:Sml g):Sml (unP ts f g):=by
 intro k t k' h
 simp only[unP] at h
 split at h
 ·exact hf _ _ _ h
 ·split at h
  ·cases h
  next y k2 e2=>
   have:=hg _ _ _ e2
   simp only[Res.ok.injEq] at h;obtain⟨rfl,rfl⟩:=h
   simp only[Tr.size,Tr.sizes];omega
theorem argsF_sml{f:PR}(hf:Sml f)(nm:List UInt8):∀ (i:Nat) (acc:List Tr) (k:Nat) (t:Tr) (k':Nat),argsF ts E f nm i acc k= .ok t k'→t.size+k≤k'+Tr.sizes acc:=by
 intro i
 induction i with
 |zero=>intro acc k t k' h;simp only[argsF,failR] at h;cases h
 |succ i ih=>
  intro acc k t k' h
  simp only[argsF] at h
  split at h
  ·cases h
  next y k1 e=>
   have:=hf _ _ _ e
   split at h
   ·have:=ih _ _ _ _ h
    rw[Tr.sizes_append] at this
    simp only[Tr.sizes] at this
    omega
   ·split at h
    ·simp only[Res.ok.injEq] at h;obtain⟨rfl,rfl⟩:=h
     simp only[Tr.size]
     rw[Tr.sizes_append]
     simp only[Tr.sizes];omega
    ·cases h
theorem leaf_size(x:Hd):(Tr.node x []).size=1:=by simp only[Tr.size,Tr.sizes]
theorem nameP_sml{f:PR}(hf:Sml f)(x:Tk):Sml (nameP ts E A f x):=by
 intro k t k' h
 simp only[nameP] at h
 split at h
 ·simp only[callP] at h
  split at h
  ·cases h
  ·split at h
   ·simp only[Res.ok.injEq] at h;obtain⟨rfl,rfl⟩:=h;rw[leaf_size];omega
   ·have:=argsF_sml ts E hf _ _ _ _ _ _ h
    simp only[Tr.sizes] at this;omega
 ·split at h
  ·simp only[Res.ok.injEq] at h;obtain⟨rfl,rfl⟩:=h;rw[leaf_size];omega
  ·split at h
   ·simp only[Res.ok.injEq] at h;obtain⟨rfl,rfl⟩:=h;rw[leaf_size];omega
   ·split at h
    ·cases h
    ·split at h
     ·simp only[Res.ok.injEq] at h;obtain⟨rfl,rfl⟩:=h;rw[leaf_size];omega
     ·split at h
      ·cases h
      ·simp only[Res.ok.injEq] at h;obtain⟨rfl,rfl⟩:=h;rw[leaf_size];omega
theorem partP_sml{f:PR}(hf:Sml f):Sml (partP ts E A f):=by
 intro k t k' h
 simp only[partP] at h
 split at h
 ·cases h
 ·split at h
  ·simp only[Res.ok.injEq] at h;obtain⟨rfl,rfl⟩:=h;rw[leaf_size];omega
  ·split at h
   ·split at h
    ·simp only[Res.ok.injEq] at h;obtain⟨rfl,rfl⟩:=h;rw[leaf_size];omega
    ·cases h
   ·split at h
    ·exact nameP_sml ts E A hf _ _ _ _ h
    ·split at h
     ·split at h
      ·split at h
       ·cases h
       next y k1 e=>
        have:=hf _ _ _ e
        split at h
        ·simp only[Res.ok.injEq] at h;obtain⟨rfl,rfl⟩:=h;omega
        ·cases h
      ·cases h
     ·cases h
theorem lv_sml:∀ d,Sml (lv ts E A d).form∧Sml (lv ts E A d).pow∧Sml (lv ts E A d).un:=by
 intro d
 induction d with
 |zero=>exact⟨fun _ _ _ h=>(nomatch h),fun _ _ _ h=>(nomatch h),fun _ _ _ h=>(nomatch h)⟩
 |succ d ih=>
  have hu:=unP_sml ts (partP_sml ts E A ih.1) ih.2.2
  have hp:=powP_sml ts hu ih.2.1
  exact⟨formP_sml ts (rowP_sml ts (rowP_sml ts hp)),hp,hu⟩
end
end Go.PanE
namespace Go.PanE
open Go.Proofs
theorem dp_end(h:Heap)(xr:Option Addr)(xn i n v:Nat)(a0:decide (((i:Int):Int) < xn)=false):Bd n 20 [1,1,0,1,0,0] Tryz.f162 [(3,iv (v:Int)),(7,.slice xr xn xn),(8,iv xn),(9,iv (i:Int))] h (.exit 0) [(3,iv (v:Int))] h:=
 bdF (kZ h) [yF a0,.z 0]
theorem dp_on(h:Heap)(ab j i v w n:Nat)(x:Hd)(xr:Option Addr)(xn:Nat)(_h1:i < j)(_h2:j < 4000)(a0:decide (((i:Int):Int) < j)=true)(a1:LD h 72 ab (0+i * 10) (ndV x xr xn))(a2:Pu n 162 [ndV x xr xn] (iv (w:Int)) (pt (al h 72 z72) h.nx 72 (ndL x xr xn)))(a3:minA (fun y x=>decide (y>x)) (iv (v:Int)) [iv (w:Int)]=some (iv ((max v w:Nat):Int))):Bd n 20 [1,1,0,1,0,0] Tryz.f162 [(3,iv (v:Int)),(7,sv ab 0 j j),(8,iv j),(9,iv (i:Int))] h .normal [(3,iv ((max v w:Nat):Int)),(7,sv ab 0 j j),(8,iv j),(9,iv ((i:Int)+1))] (pt (al h 72 z72) h.nx 72 (ndL x xr xn)):=
 bdF (kZ h) [yT a0,iA 70 72 10 ab j i,yE a1,aS 72 z72,.w 0 72 0 (ndV x xr xn),.g 0 72 0 10,yP a2,yE a3,yW ((i:Int)+1),.z 0]
theorem dp_fn(h hL:Heap)(v n:Nat)(x:Hd)(xr:Option Addr)(xn:Nat)(_h:v < 4000)(a0:Lf n 20 [1,1,0,1,0,0] Tryz.f162 [(0,ndV x xr xn),(1,pv h.nx 0),(2,iv 0),(3,iv 0),(6,pv h.nx 9),(7,.slice xr xn xn),(8,iv xn),(9,iv 0)] (al h.fresh 72 (ndL x xr xn)) (.exit 0) [(3,iv (v:Int))] hL):Fn n 162 [ndV x xr xn] h (iv ((v:Int)+1)) hL:=
 fnV (kZ h) [aS 72 (ndL x xr xn),.l 0 70 9,yS a0 (kZ hL),yW ((v:Int)+1),.z 0]
end Go.PanE
namespace Go.PanE
open Go.Proofs
theorem nd_ld{h:Heap}{ab es i:Nat}{cs cs':List Value}{ro:Bool}{x:Hd}{r:Option Addr}{n:Nat}(hg:h.get ab=some (.row 72 cs es ro))(hd:cs.drop (i * 10)=ndL x r n++cs'):LD h 72 ab (0+i * 10) (ndV x r n):=
 ld_agg 10 (l:=ndL x r n) hg A72 (by rw[Nat.zero_add,hd,List.take_append_of_le_length (by rw[ndL_length];exact Nat.le_refl _)];rfl) rfl
mutual
theorem depth_law:∀ (t:Tr) (m:Nat) (h:Heap) (P:Nat→Prop) (x:Hd) (r:Option Addr) (n:Nat),NodeC h P x r n t→t.size≤1000→t.depth≤m→RD m 162 [ndV x r n] h=some (iv (t.depth:Int),h)
 | .node y ts,m,h,P,x,r,n,N,hs,hm=>by
  unfold Tr.depth at hm ⊢
  unfold Tr.size at hs
  have hds:=Tr.depths_sizes ts
  obtain⟨m,rfl⟩:∃ k,m=k+1:=⟨m - 1,by omega⟩
  unfold NodeC at N
  obtain⟨_,hn,N⟩:=N
  have K0:Kp h.fresh (al h.fresh 72 (ndL x r n)):=(Kp.refl _).al _ _
  rcases N with⟨rfl,rfl⟩|⟨b,cs,es,ro,rfl,hP,hg,hA⟩
  ·subst hn
   have L:Loops En (RD m) 20 5000 (sub [1,1,0,1,0,0] (bodyOf Tryz.f162)) [(3,iv ((0:Nat):Int)),(7,.slice none 0 0),(8,iv ((0:Nat):Int)),(9,iv ((0:Nat):Int))] (al h.fresh 72 (ndL x none 0)) (.exit 0) [(3,iv ((0:Nat):Int))] (al h.fresh 72 (ndL x none 0)) 1:=.out (dp_end _ none 0 0 m 0 rfl)
   refine(dp_fn h _ 0 m x none 0 (by omega) (L.fact' (by omega) ⟨by kernel_rfl,by kernel_rfl,by kernel_rfl,by kernel_rfl,trivial⟩)).trans ?_
   rw[finish_low (Nat.le_refl _) rfl]
   rfl
  ·subst hn
   have hl:ts.length≤Tr.sizes ts:=Tr.length_sizes ts
   obtain⟨H,R,hR,L,K,w⟩:=depth_loop ts m b ts.length P 0 0 (al h.fresh 72 (ndL x (some ⟨b,0,none⟩) ts.length)) cs cs es ro (ArgsC.mono (h:=h) (fun c o hc e=>⟨hc,gA (h:=h.fresh) e⟩) hA) (gA (h:=h.fresh) hg) (by rw[Nat.zero_mul];rfl) (by omega) (by omega) (by omega) (by omega) (by omega)
   rw[Nat.zero_max] at L
   refine(dp_fn h H (Tr.depths ts) m x (some ⟨b,0,none⟩) ts.length (by omega) (L.fact' (by omega) ⟨by kernel_rfl,by kernel_rfl,by kernel_rfl,by kernel_rfl,trivial⟩)).trans ?_
   rw[finish_low (by
    have e1:(al h.fresh 72 (ndL x (some ⟨b,0,none⟩) ts.length)).nx=h.nx+1:=rfl
    have e2:(al h.fresh 72 (ndL x (some ⟨b,0,none⟩) ts.length)).wm=h.nx:=rfl
    omega) rfl]
   rfl
theorem depth_loop:∀ (l:List Tr) (m ab j:Nat) (P:Nat→Prop) (i v:Nat) (h:Heap) (cs cs':List Value) (es:Nat) (ro:Bool),ArgsC h P cs' l→h.get ab=some (.row 72 cs es ro)→cs.drop (i * 10)=cs'→i+l.length=j→j < 4000→v < 4000→Tr.sizes l≤1000→Tr.depths l≤m→
  ∃ H R,R≤l.length+1∧Loops En (RD m) 20 5000 (sub [1,1,0,1,0,0] (bodyOf Tryz.f162)) [(3,iv (v:Int)),(7,sv ab 0 j j),(8,iv j),(9,iv ((i:Nat):Int))] h (.exit 0) [(3,iv ((max v (Tr.depths l):Nat):Int))] H R∧Kp h H∧min h.nx h.wm≤H.wm
 |[],m,ab,j,P,i,v,h,cs,cs',es,ro,A,hg,hd,hi,hj,hv,hs,hm=>by
  refine⟨h,1,by omega,.out ?_,Kp.refl h,by omega⟩
  have:max v (Tr.depths [])=v:=by unfold Tr.depths;omega
  rw[this]
  exact dp_end h (some ⟨ab,0,none⟩) j i m v (lt_dec' (by simp only[List.length_nil] at hi;omega))
 |t::l,m,ab,j,P,i,v,h,cs,cs',es,ro,A,hg,hd,hi,hj,hv,hs,hm=>by
  unfold ArgsC at A
  obtain⟨x,r,n,cs2,e,N,A2⟩:=A
  unfold Tr.sizes at hs
  unfold Tr.depths at hm
  rw[List.length_cons] at hi
  have ld:=nd_ld hg (hd.trans e)
  have Kb:Kp h (pt (al h 72 z72) h.nx 72 (ndL x r n)):=((Kp.refl h).al _ _).pt _ _ (Nat.le_refl _) (Nat.lt_succ_self _)
  have et:=depth_law t m (pt (al h 72 z72) h.nx 72 (ndL x r n)) P x r n (N.mono fun c o hc e=>⟨hc,(Kb.get c (Heap.lt_of_get e)).trans e⟩) (by omega) (by omega)
  have hb:=dp_on h ab j i v t.depth m x r n (by omega) hj (lt_dec (by omega)) ld et (maxN _ _)
  have hts:=Tr.depth_size t
  obtain⟨H,R,hR,L,K,w⟩:=depth_loop l m ab j P (i+1) (max v t.depth) (pt (al h 72 z72) h.nx 72 (ndL x r n)) cs cs2 es ro (A2.mono fun c o hc e=>⟨hc,(Kb.get c (Heap.lt_of_get e)).trans e⟩) ((Kb.get _ (Heap.lt_of_get hg)).trans hg)
   (by rw[show(i+1) * 10=i * 10+10 by omega,← List.drop_drop,hd,e,List.drop_append,List.drop_eq_nil_of_le (by rw[ndL_length];exact Nat.le_refl _),ndL_length];rfl) (by omega) hj (by omega) (by omega) (by omega)
  have e3:max (max v t.depth) (Tr.depths l)=max v (Tr.depths (t::l)):=by
   conv=>rhs;unfold Tr.depths
   omega
  rw[e3] at L
  have w1:(pt (al h 72 z72) h.nx 72 (ndL x r n)).wm=min h.nx h.wm:=Heap.wm_put _ _ _
  have n1:(pt (al h 72 z72) h.nx 72 (ndL x r n)).nx=h.nx+1:=rfl
  exact⟨H,R+1,by rw[List.length_cons];omega,.on hb L,Kb.trans K,by omega⟩
end
end Go.PanE
namespace Go.PanE
open Go.Proofs
noncomputable section
abbrev y20_1(r:Option Addr)(T:Nat)(s:ByteArray):List Value:=[.slice r T T,iv 0,iv s.data.toList.length]
abbrev y20_2(r:Option Addr)(T k:Nat)(s:ByteArray):AObj:=.row 274 [.slice r T T,iv (k:Int),iv (s.data.toList.length:Int)] 0 false
theorem ps_cut(h h1:Heap)(s:ByteArray)(e c n:Nat)(gh1_hnx:h1.get h.nx=some (.row 72 z72 0 false))(_lhnxh1:h.nx < h1.nx)(a0:RD n 175 [.string s] (al h.fresh 72 z72)=some (.tuple #[.slice none 0 0,iv (e:Int),iv (c:Int)],h1))(a1:(((c:Int):Int) !=0)=true):∃ H,Fn n 142 [.string s] h (.tuple #[z72V,.iface 242 (pv h1.nx 0)]) H∧tw1 h1 h1.wm h.nx (h1.nx+1) H (H.get h1.nx=some (.row 245 [iv (e:Int),iv (c:Int)] 0 false)):=
 exT (kZ h) [aS 72 z72,yC a0 (kI (ko gh1_hnx)),yT a1,aS 245 [iv (e:Int),iv (c:Int)],.w 0 72 0 (z72V),.r 0 72 10,.z 1] [1]
theorem ps_e(h h1 h2:Heap)(s:ByteArray)(r:Option Addr)(T q n:Nat)(gh2_hnx:h2.get h.nx=some (.row 72 z72 0 false))(_lhnxh2:h.nx < h2.nx)(a0:RD n 175 [.string s] (al h.fresh 72 z72)=some (.tuple #[.slice r T T,iv 0,iv 0],h1))(a1:RD n 176 [pv h1.nx 0,iv 0] (al h1 274 (y20_1 r T s))=some (.tuple #[z72V,.iface 242 (pv q 0)],h2)):∃ H,Fn n 142 [.string s] h (.tuple #[z72V,.iface 242 (pv q 0)]) H∧tl1 h2 h2.wm h.nx (h2.nx+1) H:=
 exT (kZ h) [aS 72 z72,yC a0 (kZ h1),bF,aS 274 (y20_1 r T s),yC a1 (kI (ko gh2_hnx)),aS 72 z72,.w 1 72 0 (z72V),bT,.w 0 72 0 (z72V),.r 0 72 10,.z 1] []
theorem ps_m(h h1 h2 h3:Heap)(s:ByteArray)(r:Option Addr)(T k q n:Nat)(x:Hd)(xr:Option Addr)(xn:Nat)(gh2_hnx:h2.get h.nx=some (.row 72 z72 0 false))(_lhnxh2:h.nx < h2.nx)(gh2_h1nx:h2.get h1.nx=some (y20_2 r T k s))(_lh1nxh2:h1.nx < h2.nx)(gh3_hnx:h3.get h.nx=some (.row 72 z72 0 false))(_lhnxh3:h.nx < h3.nx)(a0:RD n 175 [.string s] (al h.fresh 72 z72)=some (.tuple #[.slice r T T,iv 0,iv 0],h1))(a1:RD n 176 [pv h1.nx 0,iv 0] (al h1 274 (y20_1 r T s))=some (.tuple #[ndV x xr xn,.nilIface],h2))(a2:decide (((k:Int):Int) < T)=true)(a3:RD n 177 [pv h1.nx 0] (pt (al h2 72 z72) h2.nx 72 (ndL x xr xn))=some (.iface 242 (pv q 0),h3)):∃ H,Fn n 142 [.string s] h (.tuple #[z72V,.iface 242 (pv q 0)]) H∧tl1 h3 h3.wm h.nx h3.nx H:=
 exT (kZ h) [aS 72 z72,yC a0 (kZ h1),bF,aS 274 (y20_1 r T s),yC a1 (kI (ko gh2_h1nx)),aS 72 z72,.w 1 72 0 (ndV x xr xn),bF,.l 0 3 1,yT a2,yC a3 (kI (ko gh3_hnx)),.w 0 72 0 (z72V),.r 0 72 10,.z 1] []
theorem ps_d(h h1 h2:Heap)(s:ByteArray)(r:Option Addr)(T k n dd:Nat)(x:Hd)(xr:Option Addr)(xn:Nat)(gh2_hnx:h2.get h.nx=some (.row 72 z72 0 false))(_lhnxh2:h.nx < h2.nx)(gh2_h1nx:h2.get h1.nx=some (y20_2 r T k s))(_lh1nxh2:h1.nx < h2.nx)(a0:RD n 175 [.string s] (al h.fresh 72 z72)=some (.tuple #[.slice r T T,iv 0,iv 0],h1))(a1:RD n 176 [pv h1.nx 0,iv 0] (al h1 274 (y20_1 r T s))=some (.tuple #[ndV x xr xn,.nilIface],h2))(a2:decide (((k:Int):Int) < T)=false)(a3:Pu n 162 [ndV x xr xn] (iv (dd:Int)) (pt (al h2 72 z72) h2.nx 72 (ndL x xr xn)))(a4:decide (((dd:Int):Int)>16)=true):∃ H,Fn n 142 [.string s] h (.tuple #[z72V,.iface 242 (pv (h2.nx+1) 0)]) H∧tw1 h2 h2.wm h.nx (h2.nx+2) H (H.get (h2.nx+1)=some (.row 245 [iv 0,iv 14] 0 false)):=
 exT (kZ h) [aS 72 z72,yC a0 (kZ h1),bF,aS 274 (y20_1 r T s),yC a1 (kJ (ko gh2_h1nx) (ko gh2_hnx)),aS 72 z72,.w 2 72 0 (ndV x xr xn),bF,.l 0 3 1,yF a2,.g 2 72 0 10,yP a3,yT a4,aS 245 [iv 0,iv 14],.w 1 72 0 (z72V),.r 1 72 10,.z 1] [3]
theorem ps_ok(h h1 h2:Heap)(s:ByteArray)(r:Option Addr)(T k n dd:Nat)(x:Hd)(xr:Option Addr)(xn:Nat)(gh2_hnx:h2.get h.nx=some (.row 72 z72 0 false))(_lhnxh2:h.nx < h2.nx)(gh2_h1nx:h2.get h1.nx=some (y20_2 r T k s))(_lh1nxh2:h1.nx < h2.nx)(a0:RD n 175 [.string s] (al h.fresh 72 z72)=some (.tuple #[.slice r T T,iv 0,iv 0],h1))(a1:RD n 176 [pv h1.nx 0,iv 0] (al h1 274 (y20_1 r T s))=some (.tuple #[ndV x xr xn,.nilIface],h2))(a2:decide (((k:Int):Int) < T)=false)(a3:Pu n 162 [ndV x xr xn] (iv (dd:Int)) (pt (al h2 72 z72) h2.nx 72 (ndL x xr xn)))(a4:decide (((dd:Int):Int)>16)=false):∃ H,Fn n 142 [.string s] h (.tuple #[ndV x xr xn,.nilIface]) H∧tl1 h2 h2.wm h.nx (h2.nx+1) H:=
 exT (kZ h) [aS 72 z72,yC a0 (kZ h1),bF,aS 274 (y20_1 r T s),yC a1 (kJ (ko gh2_h1nx) (ko gh2_hnx)),aS 72 z72,.w 2 72 0 (ndV x xr xn),bF,.l 0 3 1,yF a2,.g 2 72 0 10,yP a3,yF a4,.g 2 72 0 10,.w 1 72 0 (ndV x xr xn),.r 1 72 10,.z 1] []
theorem pr_ok(h h1:Heap)(s:ByteArray)(n:Nat)(x:Hd)(xr:Option Addr)(xn:Nat)(gh1_hnx:h1.get h.nx=some (.row 72 z72 0 false))(_lhnxh1:h.nx < h1.nx)(a0:RD n 142 [.string s] (al h.fresh 72 z72)=some (.tuple #[ndV x xr xn,.nilIface],h1))(a1:Pu n 33 [.nilIface,.iface 243 (pv (h1.nx+1) 0)] (.bool false) (al (pt (al h1 72 z72) h1.nx 72 (ndL x xr xn)) 242 [.pointer none])):∃ H,Fn n 105 [.string s] h (.tuple #[ndV x xr xn,iv 0,iv 0]) H∧tl1 h1 h1.wm h.nx (h1.nx+2) H:=
 exT (kZ h) [aS 72 z72,yC a0 (kI (ko gh1_hnx)),aS 72 z72,.w 1 72 0 (ndV x xr xn),aS 242 [.pointer none],yP a1,.g 1 72 0 10,.w 0 72 0 (ndV x xr xn),.r 0 72 10,.z 1] []
theorem pr_e(h h1 h2:Heap)(s:ByteArray)(e c q n:Nat)(_hq:h.nx < q)(gh1_hnx:h1.get h.nx=some (.row 72 z72 0 false))(_lhnxh1:h.nx < h1.nx)(gh2_hnx:h2.get h.nx=some (.row 72 z72 0 false))(_lhnxh2:h.nx < h2.nx)(gh2_h1nx1:h2.get (h1.nx+1)=some (.row 242 [pv q 0] 0 false))(gh2_q:h2.get q=some (.row 245 [iv (e:Int),iv (c:Int)] 0 false))(a0:RD n 142 [.string s] (al h.fresh 72 z72)=some (.tuple #[z72V,.iface 242 (pv q 0)],h1))(a1:RD n 33 [.iface 242 (pv q 0),.iface 243 (pv (h1.nx+1) 0)] (al (pt (al h1 72 z72) h1.nx 72 z72) 242 [.pointer none])=some (.bool true,h2)):∃ H,Fn n 105 [.string s] h (.tuple #[z72V,iv (e:Int),iv (c:Int)]) H∧tl1 h2 h2.wm h.nx h2.nx H:=
 exT (kZ h) [aS 72 z72,yC a0 (kZ h1),aS 72 z72,.w 0 72 0 (z72V),aS 242 [.pointer none],yC a1 (kK (ko gh2_h1nx1) (ko gh2_q) (ko gh2_hnx)),.l 0 242 0,.l 1 3 0,.l 0 242 0,.l 1 33 1,.w 2 72 0 (z72V),yN h2.nx,.j 5,.q (.l 0 242 0),.j 6,.q (.l 0 242 0),.j 5,.q (.l 1 3 0),.j 6,.q (.l 1 3 0),.j 5,.q (.l 0 242 0),.j 6,.q (.l 0 242 0),.j 5,.q (.l 1 33 1),.j 6,.q (.l 1 33 1),.r 2 72 10,.z 1] []
end
end Go.PanE
namespace Go.PanE
open Go.Proofs
/-- What a parser makes of a text. -/
def parseM(A:List UInt8→Option (Nat×Nat))(s:List UInt8):Res:=
 if 300 < s.length then .err 0 2
 else match lexM (s.length+1) s 0 [] with
  | .bad e=>.err e 12
  | .ok ts=>
   match(lv ts s.length A 41).form 0 with
   | .err p c=>.err p c
   | .ok t k=>if k < ts.length then failR ts s.length k else if 16 < t.depth then .err 0 14 else .ok t 0
theorem numM_t{l:List UInt8}{x:Nat×Nat×List UInt8×Nat}(h:oneR l=x):x.2.2.1.length≤l.length:=by
 subst h
 unfold oneR
 cases l with
 |nil=>simp
 |cons c r=>
  simp only
  by_cases c2:kd c=2
  ·rw[if_pos c2]
   cases numM ((c::r).takeWhile isD) with
   |none=>simp
   |some v=>simp
  rw[if_neg c2]
  by_cases c4:kd c=4
  ·rw[if_pos c4]
   cases hv:textM r [] 1 with
   |none=>simp
   |some p=>
    obtain⟨a,e⟩:=p
    have:=(textM_bound r.length r [] 1 a e (Nat.le_refl _) hv).2.2
    simp only[List.length_cons,List.length_nil] at this ⊢;omega
  rw[if_neg c4]
  by_cases c3:kd c=3
  ·rw[if_pos c3];simp only[List.length_map];exact(List.takeWhile_prefix _).length_le
  rw[if_neg c3]
  by_cases c5:kd c=5
  ·rw[if_pos c5];exact List.length_take_le' _ _
  ·rw[if_neg c5];simp
theorem lex_t(M:Nat):∀ (N:Nat) (l:List UInt8) (at_:Nat) (acc ts:List Tk),lexM N l at_ acc= .ok ts→l.length≤M→(∀ x∈acc,x.t.length≤M)→∀ x∈ts,x.t.length≤M:=by
 intro N
 induction N with
 |zero=>intro l at_ acc ts h _ ha;simp only[lexM,LexR.ok.injEq] at h;subst h;exact ha
 |succ N ih=>
  intro l at_ acc ts h hl ha
  cases l with
  |nil=>simp only[lexM,LexR.ok.injEq] at h;subst h;exact ha
  |cons c r=>
   simp only[lexM] at h
   rw[List.length_cons] at hl
   split at h
   ·exact ih _ _ _ _ h (by omega) ha
   ·split at h
    ·cases h
    ·refine ih _ _ _ _ h (by rw[List.length_drop,List.length_cons];omega) ?_
     intro x hx
     rcases List.mem_append.1 hx with hx|hx
     ·exact ha x hx
     ·rw[List.mem_singleton] at hx
      subst hx
      have:=numM_t (l:=c::r) rfl
      rw[List.length_cons] at this
      show(oneR (c::r)).2.2.1.length≤M
      omega
theorem Kp.fin{h H:Heap}{v:Value}(a:Kp h.fresh H):Kp h (PanE.finish h v H).2:=by
 unfold PanE.finish
 split
 ·exact Kp.refl h
 ·exact⟨a.nx,a.get,Nat.min_le_left _ _⟩
/-- A tree handed back. -/
theorem fin_node{X:Option (Value×Heap)}{h H:Heap}{x:Hd}{r:Option Addr}{l:Nat}{t:Tr}(w:List Value)(e:X=some (finish h (.tuple ⟨ndV x r l::w⟩) H))(K:Kp h.fresh H)(N:NodeI H h.nx H.nx x r l t):
  ∃ h',X=some (.tuple ⟨ndV x r l::w⟩,h')∧Kp h h'∧NodeI h' h.nx h'.nx x r l t:=by
 cases r with
 |none=>
  refine⟨_,fin e,K.fin,?_⟩
  cases t with
  |node y ts=>
   unfold NodeI NodeC at N ⊢
   obtain⟨h1,h2,h3⟩:=N
   rcases h3 with h3|⟨b,cs,es,ro,e1,_⟩
   ·exact⟨h1,h2,.inl h3⟩
   ·cases e1
 |some a=>
  have ha:a.off=0∧h.nx≤a.block:=by
   cases t with
   |node y ts=>
    unfold NodeI NodeC at N
    obtain⟨_,_,h3⟩:=N
    rcases h3 with⟨_,h3⟩|⟨b,cs,es,ro,e1,e2,_⟩
    ·cases h3
    ·cases e1;exact⟨rfl,e2.1⟩
  have hlow:lowV h.nx 5 (.tuple ⟨ndV x (some a) l::w⟩)=false:=by
   have:lowV h.nx 4 (ndV x (some a) l)=false:=by
    simp[ndV,lowV,blt_false ha.2]
   show((ndV x (some a) l::w).all (lowV h.nx 4))=false
   rw[List.all_cons,this];rfl
  exact⟨_,fin_new e hlow,⟨K.nx,K.get,Nat.min_le_left _ _⟩,NodeC.mono (h:=H) (g:={H with wm:=min h.wm H.wm}) (fun _ _ hb e=>⟨hb,e⟩) N⟩
end Go.PanE
namespace Go.PanE
open Go.Proofs
theorem orcD_33:orcD 33=some orc33:=by kernel_rfl
theorem as_nil(x:Value)(h:Heap)(n:Nat)(hn:1≤n):RD n 33 [.nilIface,x] h=some (.bool false,h):=by
 obtain⟨n,rfl⟩:∃ m,n=m+1:=⟨n - 1,by omega⟩
 show runA En orcD (drawn En) 5000 (n+1) 33 _ h=_
 simp only[runA,orcD_33,orc33]
theorem h0_0{m:Int}{h:Heap}(G:Gl m h):∃ t cs,h.get 0=some (.row t [.iface 168 (.agg cs)] 0 true)∧errT cs=true:=by
 rw[G.get 0 (by decide),h0_get,if_pos (by decide)]
 exact⟨_,_,rfl,by kernel_rfl⟩
theorem as_tree{m:Int}{h:Heap}(G:Gl m h)(q c:Nat)(y:Value)(hc:h.get c=some (.row 242 [y] 0 false))(n:Nat)(hn:1≤n):
  RD n 33 [.iface 242 (pv q 0),.iface 243 (pv c 0)] h=some (.bool true,pt h c 242 [pv q 0]):=by
 obtain⟨n,rfl⟩:∃ m,n=m+1:=⟨n - 1,by omega⟩
 obtain⟨t,cs,h0,he⟩:=h0_0 G
 show runA En orcD (drawn En) 5000 (n+1) 33 _ h=_
 simp only[runA,orcD_33,orc33,h0,he,cond_true,Nat.beq_refl,storeC,hc,setL]
 rfl
section
variable {m:Int} {A:List UInt8→Option (Nat×Nat)} {N0:Nat}
/-- What tree.parsed hands back. -/
def ParA(h:Heap)(R:Res)(v:Value)(h':Heap):Prop:=
 Kp h h'∧match R with
  | .err pos c=>∃ q,v= .tuple #[z72V,.iface 242 (pv q 0)]∧h.nx≤q∧h'.get q=some (.row 245 [iv (pos:Int),iv (c:Int)] 0 false)
  | .ok t _=>∃ x r l,v= .tuple #[ndV x r l,.nilIface]∧NodeI h' h.nx h'.nx x r l t
theorem para_err{h:Heap}{pos c q:Nat}{X:Option (Value×Heap)}{H:Heap}(e:X=some (finish h (.tuple #[z72V,.iface 242 (pv q 0)]) H))(K:Kp h.fresh H)(hq:h.nx≤q)(gq:H.get q=some (.row 245 [iv (pos:Int),iv (c:Int)] 0 false)):
  ∃ v h',X=some (v,h')∧ParA h (.err pos c) v h':=
 ⟨_,_,fin_new e (low_err2 hq),⟨K.nx,K.get,Nat.min_le_left _ _⟩,q,rfl,hq,gq⟩
theorem Up.kp{h g:Heap}(u:Up h.nx h g)(hw:g.wm≤h.wm):Kp h g:=⟨u.nx,u.get,hw⟩
theorem parsed_law(hA:AdrA m A N0)(s:ByteArray)(h:Heap)(n:Nat)(hn:N0+430+1000≤n)(G:Gl m h):
  ∃ v h',RD n 142 [.string s] h=some (v,h')∧ParA h (parseM A s.data.toList) v h':=by
 obtain⟨n,rfl⟩:∃ m,n=m+1:=⟨n - 1,by omega⟩
 have K0:Kp h.fresh (al h.fresh 72 z72):=(Kp.refl _).al 72 z72
 have g0:(al h.fresh 72 z72).get h.nx=some (.row 72 z72 0 false):=gN (h:=h.fresh)
 have n0:(al h.fresh 72 z72).nx=h.nx+1:=rfl
 have hG:=G.nx
 obtain⟨v1,h1,e1,U1,C1⟩:=cutA_law s (al h.fresh 72 z72) n (by omega) (G.fresh.alloc _)
 have l1:h.nx+1≤h1.nx:=U1.nx
 have u1:∀ c,c < h.nx+1→h1.get c=(al h.fresh 72 z72).get c:=U1.get
 have g1:=(u1 h.nx (by omega)).trans g0
 have old:∀ c,c < h.nx→h1.get c=h.get c:=fun c hc=>(u1 c (by omega)).trans (K0.get c hc)
 have G1:Gl m h1:=⟨by omega,fun c hc=>(old c (by omega)).trans (G.get c hc)⟩
 have kp:∀ {hk H:Heap},h1.nx≤hk.nx→(∀ c,c < h1.nx→hk.get c=h1.get c)→(∀ c,c < hk.nx→c≠h.nx→H.get c=hk.get c)→hk.nx≤H.nx→H.wm≤h.nx→Kp h.fresh H:=fun hn hk hg hH hw=>
  ⟨by show h.nx≤_;omega,fun c hc=>by
   have hc':c < h.nx:=hc
   exact(hg c (by omega) (by omega)).trans ((hk c (by omega)).trans (old c hc')),hw⟩
 unfold parseM
 by_cases hl:300 < s.data.toList.length
 ·rw[if_pos hl] at C1 ⊢
  subst C1
  obtain⟨H,e,g,nx,_,wm,w⟩:=ps_cut h h1 s 0 2 n g1 (by omega) e1 rfl
  exact para_err e (kp (Nat.le_refl _) (fun _ _=>rfl) g (by omega) wm) (by omega) w
 ·rw[if_neg hl] at C1 ⊢
  split at C1
  next e' he=>
   subst C1
   rw[he]
   obtain⟨H,e,g,nx,_,wm,w⟩:=ps_cut h h1 s e' 12 n g1 (by omega) e1 rfl
   exact para_err e (kp (Nat.le_refl _) (fun _ _=>rfl) g (by omega) wm) (by omega) w
  next ts he=>
   obtain⟨b,T1,rfl⟩:=C1
   rw[he]
   simp only
   have hT:ts.length≤300:=by have:=lexM_len _ _ _ _ _ he;simp only[List.length_nil] at this;omega
   have hlen:∀ x∈ts,x.t.length≤4000:=fun x hx=>by have:=lex_t 300 _ _ _ _ _ he (by omega) (by simp) x hx;omega
   have KP:Kp h1 (al h1 274 [tsV b ts,iv 0,iv (s.data.toList.length:Int)]):=(Kp.refl h1).al _ _
   have s1:PSt m (al h1 274 [tsV b ts,iv 0,iv (s.data.toList.length:Int)]) h1.nx b ts s.data.toList.length 0:=
    ⟨G1.alloc _,by omega,gN,T1.imp id fun t=>gA t.2,by omega,hT⟩
   obtain⟨v2,h2,e2,F2,w2,R2⟩:=(lv_law (p:=h1.nx) (b:=b) (E:=s.data.toList.length) hA hlen 41 (Nat.le_refl _)).1 n _ 0 (by omega) s1
   have l2:h1.nx+1≤h2.nx:=F2.nx
   have o2:∀ c,c < h1.nx→h2.get c=h1.get c:=fun c hc=>(F2.get c (by show c < h1.nx+1;omega) (by omega)).trans (KP.get c hc)
   have g2:=(o2 h.nx (by omega)).trans g1
   cases hf:(lv ts s.data.toList.length A 41).form 0 with
   |err pos c=>
    rw[hf] at R2
    obtain⟨q,k',rfl,hq,gq,s2⟩:=R2
    have hq':h1.nx+1≤q:=hq
    obtain⟨H,e,g,nx,_,wm⟩:=ps_e h h1 h2 s (tsR b ts) ts.length q n g2 (by omega) e1 e2
    exact para_err e (kp (by omega) o2 g (by omega) wm) (by omega) ((g q (Heap.lt_of_get gq) (by omega)).trans gq)
   |ok t k'=>
    rw[hf] at R2
    obtain⟨x,r,l,rfl,N2,s2,wp⟩:=R2
    have K3:Kp h2 (pt (al h2 72 z72) h2.nx 72 (ndL x r l)):=((Kp.refl h2).al _ _).pt _ _ (Nat.le_refl _) (Nat.lt_succ_self _)
    have hsz:=(lv_sml ts s.data.toList.length A 41).1 _ _ _ hf
    have hpr:=(lv_prog ts s.data.toList.length A 41).1 _ _ _ hf
    simp only
    by_cases hk:k' < ts.length
    ·rw[if_pos hk]
     obtain⟨h3,e3,K4,n4,g4⟩:=fail_law (s2.kp K3) n (by omega)
     have K34:=K3.trans K4
     obtain⟨H,e,g,nx,_,wm⟩:=ps_m h h1 h2 h3 s (tsR b ts) ts.length k' _ n x r l g2 (by omega) s2.pp (by omega) ((K34.get _ (by omega)).trans g2) (by have:=K34.nx;omega) e1 e2 (lt_dec hk) e3
     exact para_err e (kp (by have:=K34.nx;omega) (fun c hc=>(K34.get c (by omega)).trans (o2 c hc)) g (by omega) wm) (by show h.nx≤h2.nx+1;omega) ((g _ (Heap.lt_of_get g4) (by show h2.nx+1≠h.nx;omega)).trans g4)
    ·rw[if_neg hk]
     have ed:=depth_law t n (pt (al h2 72 z72) h2.nx 72 (ndL x r l)) _ x r l (N2.kp K3 (Nat.le_refl _) (Nat.le_refl _)) (by omega) (by have:=Tr.depth_size t;omega)
     by_cases hd:16 < t.depth
     ·rw[if_pos hd]
      obtain⟨H,e,g,nx,_,wm,w⟩:=ps_d h h1 h2 s (tsR b ts) ts.length k' n t.depth x r l g2 (by omega) s2.pp (by omega) e1 e2 (lt_dec' hk) ed (gt_dec hd)
      exact para_err e (kp (by omega) o2 g (by omega) wm) (by omega) w
     ·rw[if_neg hd]
      obtain⟨H,e,g,nx,_,wm⟩:=ps_ok h h1 h2 s (tsR b ts) ts.length k' n t.depth x r l g2 (by omega) s2.pp (by omega) e1 e2 (lt_dec' hk) ed (gt_dec' hd)
      have NH:NodeI H h.nx H.nx x r l t:=NodeC.mono (fun c o hc e=>⟨⟨by have:h1.nx+1≤c:=hc.1;omega,by have:=hc.2;omega⟩,(g c (Heap.lt_of_get e) (by have:h1.nx+1≤c:=hc.1;omega)).trans e⟩) N2
      obtain⟨h',e',K',N'⟩:=fin_node [.nilIface] e (kp (by omega) o2 g (by omega) wm) NH
      exact⟨_,h',e',K',x,r,l,rfl,N'⟩
end
end Go.PanE
