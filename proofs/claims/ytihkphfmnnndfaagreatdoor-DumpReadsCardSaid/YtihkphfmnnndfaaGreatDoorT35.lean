/-
 Part 35 of the proof of Rows.DumpReadsCardSaid: The reference's parser, powers: the law.
 The reference's parser, unary signs: the law.
 The reference's parser, formulas: the law.
 The reference's parser, rows: their laws, printed by k7.py.
 No conditions.
-/
import Derived.Test.YtihkphfmnnndfaaGreatDoorT34
namespace Go.PanE
open Go.Proofs
/-- What a memory holds of a result. -/
def ResR(m:Int)(h H hk:Heap)(p b:Nat)(ts:List Tk)(E d:Nat)(R:Res)(x:Hd)(r:Option Addr)(l:Nat):Prop:=
 match R with
 | .ok t k'=>NodeI H h.nx H.nx x r l t∧QSt m hk p b ts E k' d 0 0
 | .err pos c=>c≠0∧∃ k' d',d≤d'∧d'≤41∧QSt m hk p b ts E k' d' c pos
/-- What a function of the reference's parser hands back. -/
def ResQ(m:Int)(h:Heap)(p b:Nat)(ts:List Tk)(E d:Nat)(R:Res)(v:Value)(h':Heap):Prop:=
 Fr h h' p∧h'.wm≤h.wm∧h'.wm≤p∧∃ x r l,v=ndV x r l∧ResR m h h' h' p b ts E d R x r l
def LawQ(m:Int)(p b:Nat)(ts:List Tk)(E:Nat)(N:Nat)(f:FuncId)(d:Nat)(R:PR):Prop:=
 ∀ n h k,N≤n→QSt m h p b ts E k d 0 0→∃ v h',RD n f [pv p 0] h=some (v,h')∧ResQ m h p b ts E d (R k) v h'
theorem LawQ.mono{m:Int}{p b:Nat}{ts:List Tk}{E N M:Nat}{f:FuncId}{d:Nat}{R:PR}(L:LawQ m p b ts E N f d R)(h:N≤M):LawQ m p b ts E M f d R:=fun n g k hn s=>L n g k (by omega) s
section
variable {m:Int} {h:Heap} {p b:Nat} {ts:List Tk} {E k d c w:Nat}
theorem resq{lo:Nat}{x:Hd}{r:Option Addr}{l:Nat}{R:Res}{X:Option (Value×Heap)}{H hk:Heap}(e:X=some (finish h (ndV x r l) H))(s0:QSt m h p b ts E k d c w)(F:Fr h.fresh hk p)
  (gH:∀ c,c < hk.nx→c < h.nx∨lo≤c→H.get c=hk.get c) (nH:hk.nx≤H.nx) (wp:H.wm≤p) (RR:ResR m h H hk p b ts E d R x r l):
  ∃ v h',X=some (v,h')∧ResQ m h p b ts E d R v h':=by
 have F':Fr h H p:=⟨Nat.le_trans F.nx nH,fun c hc hcp=>(gH c (Nat.lt_of_lt_of_le hc F.nx) (.inl hc)).trans (F.get c hc hcp)⟩
 have hpk:p < hk.nx:=Nat.lt_of_lt_of_le s0.lt F.nx
 refine⟨_,_,fin_wr e (by have:=s0.lt;omega),F'.wm _,Nat.min_le_left _ _,Nat.le_trans (Nat.min_le_right _ _) wp,x,r,l,rfl,?_⟩
 unfold ResR at RR ⊢
 cases R with
 |ok t k'=>
  obtain⟨N,s⟩:=RR
  exact⟨NodeC.mono (h:=H) (g:={H with wm:=min h.wm H.wm}) (fun c o hc e=>⟨hc,e⟩) N,(s0.fr F' ((gH p hpk (.inl s0.lt)).trans s.pp) s.kT).wm⟩
 |err pos c'=>
  obtain⟨hc,k',d',h1,h2,s⟩:=RR
  exact⟨hc,k',d',h1,h2,(s0.fr F' ((gH p hpk (.inl s0.lt)).trans s.pp) s.kT).wm⟩
end
section
variable {m:Int} {p b:Nat} {ts:List Tk} {E:Nat}
theorem qpower_law{f g:PR}{d N:Nat}(hd:d≤40)(hf:LawQ m p b ts E N 207 d f)(hg:d < 40→LawQ m p b ts E N 183 (d+1) g)(hg0:d=40→∀ k,g k= .err 0 14)(hN:3≤N):LawQ m p b ts E (N+1) 183 d (powP ts f g):=by
 intro n h k hn s
 obtain⟨n,rfl⟩:∃ m,n=m+1:=⟨n - 1,by omega⟩
 have K0:Kp h.fresh (al h.fresh 72 z72):=(Kp.refl _).al 72 z72
 have hp:=s.lt
 have hT:=s.tT
 obtain⟨v1,h1,e1,F1,_,wp1,x,r,l,rfl,R1⟩:=hf n _ k (by omega) (s.fresh.kp K0)
 have l1:h.nx+1≤h1.nx:=F1.nx
 have g1:h1.get h.nx=some (.row 72 z72 0 false):=(F1.get h.nx (Nat.lt_succ_self _) (by omega)).trans (Heap.get_new h.fresh _)
 have T1:=(K0.fr p).trans F1
 have K1:Kp h1 (pt (al h1 72 z72) h1.nx 72 (ndL x r l)):=((Kp.refl h1).al _ _).pt _ _ (Nat.le_refl _) (Nat.lt_succ_self _)
 unfold powP
 cases hu:f k with
 |err pos c=>
  rw[hu] at R1
  obtain⟨hc,k',d',hd1,hd2,s1⟩:=R1
  have es:=qsign_law (s1.kp K1) [94] n (by omega)
  rw[decide_eq_false hc,Bool.false_and] at es
  obtain⟨H,e,g,nx,wm,_⟩:=qp_no h h1 p ts.length E n x r l hp g1 l1 e1 es
  exact resq (lo:=h.nx+1) e s T1 (fun c hc hd=>g c hc (by omega)) (by omega) (by omega) ⟨hc,k',d',hd1,hd2,s1⟩
 |ok t k1=>
  rw[hu] at R1
  obtain⟨N1,s1⟩:=R1
  have es:=qsign_law (s1.kp K1) [94] n (by omega)
  rw[decide_eq_true rfl,Bool.true_and] at es
  simp only
  cases hs:sg ts [[94]] k1 with
  |none=>
   rw[hs] at es
   obtain⟨H,e,g,nx,wm,_⟩:=qp_no h h1 p ts.length E n x r l hp g1 l1 e1 es
   refine resq (lo:=h.nx+1) e s T1 (fun c hc hd=>g c hc (by omega)) (by omega) (by omega) ⟨NodeC.mono (fun c o hc e=>?_) N1,s1⟩
   have hc1:h.nx+1≤c:=hc.1
   exact⟨⟨by omega,by have:=hc.2;omega⟩,(g c (Heap.lt_of_get e) (by omega)).trans e⟩
  |some sn=>
   rw[hs] at es
   have hk1:=sg_lt ts hs
   have hsn:=hs_one hs
   subst hsn
   have s1':=s1.kp K1
   have gp1:=s1'.pp
   have s2:QSt m (pt (pt (al h1 72 z72) h1.nx 72 (ndL x r l)) p 160 [tsV b ts,iv (((k1:Nat):Int)+1),iv (E:Int),iv ((d:Nat):Int),iv ((0:Nat):Int),iv ((0:Nat):Int)]) p b ts E (k1+1) d 0 0:=s1'.fr (Fr.put _ _ _ s1'.lt) (Heap.get_put_same _ _ _ s1'.lt) (by omega)
   have F2:Fr h1 (pt (pt (al h1 72 z72) h1.nx 72 (ndL x r l)) p 160 [tsV b ts,iv (((k1:Nat):Int)+1),iv (E:Int),iv ((d:Nat):Int),iv ((0:Nat):Int),iv ((0:Nat):Int)]) p:=(K1.fr p).trans (Fr.put _ _ _ s1'.lt)
   have nP:(pt (pt (al h1 72 z72) h1.nx 72 (ndL x r l)) p 160 [tsV b ts,iv (((k1:Nat):Int)+1),iv (E:Int),iv ((d:Nat):Int),iv ((0:Nat):Int),iv ((0:Nat):Int)]).nx=h1.nx+1:=rfl
   have gx:(pt (pt (al h1 72 z72) h1.nx 72 (ndL x r l)) p 160 [tsV b ts,iv (((k1:Nat):Int)+1),iv (E:Int),iv ((d:Nat):Int),iv ((0:Nat):Int),iv ((0:Nat):Int)]).get h1.nx=some (.row 72 (ndL x r l) 0 false):=gO (gP (Nat.lt_succ_self _)) s1'.lt (by omega)
   obtain⟨h2,wp2,I2⟩:=qinto_law s2 hd n (by omega)
   by_cases hd4:40≤d
   ·rw[if_pos hd4] at I2
    obtain⟨e2,T2⟩:=I2
    have n2:=T2.nx
    rw[nP] at n2
    have F12:=F2.trans T2.fr
    obtain⟨H,e,g',nx,wm,_⟩:=qp_dp h h1 h2 p ts.length E k1 d n (tsR b ts) x r l hp g1 s1.pp (by omega) s1.lt (by omega) ((F12.get _ (by omega) (by omega)).trans g1) ((T2.fr.get _ (by omega) (by omega)).trans gx) (by omega) (by omega) e1 es e2
    rw[hg0 (by omega)]
    exact resq (lo:=h.nx+1) e s (T1.trans F12) (fun c hc hd=>g' c hc (by omega)) (by omega) (by omega) ⟨by decide,k1+1,d+1,by omega,by omega,T2.st⟩
   ·rw[if_neg hd4] at I2
    obtain⟨e2,T2⟩:=I2
    have n2:=T2.nx
    rw[nP] at n2
    obtain⟨v3,h3,e3,F3,w3,wp3,y,r3,l3,rfl,R3⟩:=hg (by omega) n h2 (k1+1) (by omega) T2.st
    have l3':=F3.nx
    have F13:=(F2.trans T2.fr).trans F3
    have g3:=(F13.get _ (by omega) (by omega)).trans g1
    have gx3:=(F3.get h1.nx (by omega) (by omega)).trans ((T2.fr.get _ (by omega) (by omega)).trans gx)
    have K3:Kp h3 (pt (al h3 72 z72) h3.nx 72 (ndL y r3 l3)):=((Kp.refl h3).al _ _).pt _ _ (Nat.le_refl _) (Nat.lt_succ_self _)
    have T3:=T1.trans F13
    have fin3:∀ k3 d3 c3 w3,QSt m h3 p b ts E k3 d3 c3 w3→d+1≤d3→d3≤41→∃ h4 H,RD (n+1) 183 [pv p 0] h=some (finish h (ndV (hdOp 5 [94]) (some ⟨h3.nx+4,0,none⟩) 2) H)∧
      Fr h3 h4 p∧h4.nx=h3.nx+5∧h4.get (h3.nx+4)=some (.row 72 (ndL x r l++ndL y r3 l3) 0 false)∧QSt m h4 p b ts E k3 (d3 - 1) c3 w3∧(∀ c,c < h4.nx→c≠h.nx→H.get c=h4.get c)∧H.nx=h4.nx∧H.wm≤p:=by
     intro k3 d3 c3 w3' s3 hd3 hd3'
     have s3':=s3.kp K3
     have ed:(((d3:Nat):Int) - 1)=((d3 - 1:Nat):Int):=by omega
     have s4:QSt m (pt (pt (al h3 72 z72) h3.nx 72 (ndL y r3 l3)) p 160 [tsV b ts,iv ((k3:Nat):Int),iv (E:Int),iv (((d3:Nat):Int) - 1),iv ((c3:Nat):Int),iv ((w3':Nat):Int)]) p b ts E k3 (d3 - 1) c3 w3':=s3'.fr (Fr.put _ _ _ s3'.lt) (by rw[← ed];exact Heap.get_put_same _ _ _ s3'.lt) s3'.kT
     have F4:Fr h3 (pt (pt (al h3 72 z72) h3.nx 72 (ndL y r3 l3)) p 160 [tsV b ts,iv ((k3:Nat):Int),iv (E:Int),iv (((d3:Nat):Int) - 1),iv ((c3:Nat):Int),iv ((w3':Nat):Int)]) p:=(K3.fr p).trans (Fr.put _ _ _ s3'.lt)
     obtain⟨h4,e4,K4,n4,w4⟩:=qpair_raw (h:=pt (pt (al h3 72 z72) h3.nx 72 (ndL y r3 l3)) p 160 [tsV b ts,iv ((k3:Nat):Int),iv (E:Int),iv (((d3:Nat):Int) - 1),iv ((c3:Nat):Int),iv ((w3':Nat):Int)]) (x:=x) (xr:=r) (xn:=l) (y:=y) (yr:=r3) (yn:=l3) [94] n (by omega)
     have n4':h4.nx=h3.nx+5:=n4
     have F34:=F4.trans (K4.fr p)
     obtain⟨H,e,g',nx,wm,_⟩:=qp_ok h h1 h2 h3 h4 p ts.length E k1 d k3 d3 c3 w3' n (tsR b ts) x r l y r3 l3 (hdOp 5 [94]) (some ⟨h3.nx+4,0,none⟩) 2 hp g1 s1.pp (by omega) s1.lt (by omega) g3 gx3 s3.pp (by omega) (by omega) s3.lt ((F34.get _ (by omega) (by omega)).trans g3) (by omega) (by omega) e1 es e2 e3 e4
     refine⟨h4,H,e,F34,n4',w4,s4.kp K4,g',nx,?_⟩
     have:h4.wm≤(pt (pt (al h3 72 z72) h3.nx 72 (ndL y r3 l3)) p 160 [tsV b ts,iv ((k3:Nat):Int),iv (E:Int),iv (((d3:Nat):Int) - 1),iv ((c3:Nat):Int),iv ((w3':Nat):Int)]).wm:=K4.wm
     rw[Heap.wm_put] at this
     omega
    simp only
    cases hg2:g (k1+1) with
    |err pos c=>
     rw[hg2] at R3
     obtain⟨hc,k',d',hd1,hd2,s3⟩:=R3
     obtain⟨h4,H,e,F34,n4,w4,s4,g',nx,wp⟩:=fin3 k' d' c pos s3 hd1 hd2
     exact resq (lo:=h.nx+1) e s (T3.trans F34) (fun c hc hd=>g' c hc (by omega)) (by omega) wp ⟨hc,k',d' - 1,by omega,by omega,s4⟩
    |ok u k2=>
     rw[hg2] at R3
     obtain⟨N3,s3⟩:=R3
     obtain⟨h4,H,e,F34,n4,w4,s4,g',nx,wp⟩:=fin3 k2 (d+1) 0 0 s3 (by omega) (by omega)
     refine resq (lo:=h.nx+1) e s (T3.trans F34) (fun c hc hd=>g' c hc (by omega)) (by omega) wp ⟨?_,s4⟩
     have gH:∀ c o,h.nx+1≤c→h3.get c=some o→H.get c=some o:=fun c o hc e=>(g' c (by have:=Heap.lt_of_get e;omega) (by omega)).trans ((F34.get c (Heap.lt_of_get e) (by omega)).trans e)
     refine NodeC.mk (P:=fun c=>h.nx≤c∧c < H.nx) (ts:=[t,u]) (es:=0) (ro:=false) (cs:=ndL x r l++ndL y r3 l3) _ ⟨by omega,by omega⟩ ((g' _ (by omega) (by omega)).trans w4) ?_
     unfold ArgsC
     refine⟨x,r,l,ndL y r3 l3,rfl,NodeC.mono (fun c o hc e=>?_) N1,?_⟩
     ·have hc1:h.nx+1≤c:=hc.1
      exact⟨⟨by omega,by have:=hc.2;omega⟩,gH c o hc1 ((F13.get c (Heap.lt_of_get e) (by omega)).trans e)⟩
     unfold ArgsC
     refine⟨y,r3,l3,[],by rw[List.append_nil],NodeC.mono (fun c o hc e=>?_) N3,?_⟩
     ·have hc1:h2.nx≤c:=hc.1
      exact⟨⟨by omega,by have:=hc.2;omega⟩,gH c o (by omega) e⟩
     unfold ArgsC;rfl
end
end Go.PanE
namespace Go.PanE
open Go.Proofs
def hdZ:Hd:=⟨0,0,0,eS,0,0,0,0,eS⟩
section
variable {m:Int} {p b:Nat} {ts:List Tk} {E:Nat}
theorem qunary_law{f g:PR}{d N:Nat}(hd:d≤40)(hf:LawQ m p b ts E N 225 d f)(hg:d < 40→LawQ m p b ts E N 207 (d+1) g)(hg0:d=40→∀ k,g k= .err 0 14)(hN:3≤N):LawQ m p b ts E (N+1) 207 d (unP ts f g):=by
 intro n h k hn s
 obtain⟨n,rfl⟩:∃ m,n=m+1:=⟨n - 1,by omega⟩
 have K0:Kp h.fresh (al h.fresh 72 z72):=(Kp.refl _).al 72 z72
 have hp:=s.lt
 have hT:=s.tT
 have s0:=s.fresh.kp K0
 have g0:(al h.fresh 72 z72).get h.nx=some (.row 72 z72 0 false):=gN (h:=h.fresh)
 have es:=qsign_law s0 [45] n (by omega)
 rw[decide_eq_true rfl,Bool.true_and] at es
 unfold unP
 cases hs:sg ts [[45]] k with
 |none=>
  rw[hs] at es
  obtain⟨v1,h1,e1,F1,_,wp1,x,r,l,rfl,R1⟩:=hf n _ k (by omega) s0
  have l1:h.nx+1≤h1.nx:=F1.nx
  have T1:=(K0.fr p).trans F1
  obtain⟨H,e,g,nx,wm,_⟩:=qu_pt h h1 p ts.length E n x r l hp ((F1.get h.nx (Nat.lt_succ_self _) (by omega)).trans g0) l1 es e1
  simp only
  refine resq (lo:=h.nx+1) e s T1 (fun c hc hd=>g c hc (by omega)) (by omega) (by omega) ?_
  unfold ResR at R1 ⊢
  split at R1
  next t k' e'=>
   refine⟨NodeC.mono (fun c o hc e=>?_) R1.1,R1.2⟩
   have hc1:h.nx+1≤c:=hc.1
   exact⟨⟨by omega,by have:=hc.2;omega⟩,(g c (Heap.lt_of_get e) (by omega)).trans e⟩
  next pos c e'=>exact R1
 |some sn=>
  rw[hs] at es
  have hk1:=sg_lt ts hs
  have s2:QSt m (pt (al h.fresh 72 z72) p 160 [tsV b ts,iv (((k:Nat):Int)+1),iv (E:Int),iv ((d:Nat):Int),iv ((0:Nat):Int),iv ((0:Nat):Int)]) p b ts E (k+1) d 0 0:=s0.fr (Fr.put _ _ _ s0.lt) (Heap.get_put_same _ _ _ s0.lt) (by omega)
  have F2:Fr h.fresh (pt (al h.fresh 72 z72) p 160 [tsV b ts,iv (((k:Nat):Int)+1),iv (E:Int),iv ((d:Nat):Int),iv ((0:Nat):Int),iv ((0:Nat):Int)]) p:=(K0.fr p).trans (Fr.put _ _ _ s0.lt)
  have nP:(pt (al h.fresh 72 z72) p 160 [tsV b ts,iv (((k:Nat):Int)+1),iv (E:Int),iv ((d:Nat):Int),iv ((0:Nat):Int),iv ((0:Nat):Int)]).nx=h.nx+1:=rfl
  have gz:(pt (al h.fresh 72 z72) p 160 [tsV b ts,iv (((k:Nat):Int)+1),iv (E:Int),iv ((d:Nat):Int),iv ((0:Nat):Int),iv ((0:Nat):Int)]).get h.nx=some (.row 72 z72 0 false):=gO g0 s0.lt (by omega)
  obtain⟨h1,wp1,I1⟩:=qinto_law s2 hd n (by omega)
  simp only
  by_cases hd4:40≤d
  ·rw[if_pos hd4] at I1
   obtain⟨e1,T1⟩:=I1
   have n1:=T1.nx
   rw[nP] at n1
   obtain⟨H,e,g',nx,wm,_⟩:=qu_dp h h1 p ts.length E k d n (tsR b ts) s.pp hp (by omega) ((T1.fr.get _ (by omega) (by omega)).trans gz) (by omega) es e1
   rw[hg0 (by omega)]
   exact resq (x:=hdZ) (r:=none) (l:=0) (lo:=h.nx+1) e s (F2.trans T1.fr) (fun c hc hd=>g' c hc (by omega)) (by omega) (by omega) ⟨by decide,k+1,d+1,by omega,by omega,T1.st⟩
  ·rw[if_neg hd4] at I1
   obtain⟨e1,T1⟩:=I1
   have n1:=T1.nx
   rw[nP] at n1
   obtain⟨v3,h3,e3,F3,w3,wp3,y,r3,l3,rfl,R3⟩:=hg (by omega) n h1 (k+1) (by omega) T1.st
   have l3':=F3.nx
   have g3:=(F3.get h.nx (by omega) (by omega)).trans ((T1.fr.get _ (by omega) (by omega)).trans gz)
   have T3:=(F2.trans T1.fr).trans F3
   have fin3:∀ k3 d3 c3 w3,QSt m h3 p b ts E k3 d3 c3 w3→d+1≤d3→d3≤41→∃ hk H,RD (n+1) 207 [pv p 0] h=some (finish h (ndV (hdOp 4 []) (some ⟨h3.nx+1,0,none⟩) 1) H)∧
     Fr h3 hk p∧hk.nx=h3.nx∧QSt m hk p b ts E k3 (d3 - 1) c3 w3∧(∀ c,c < hk.nx→c≠h.nx→H.get c=hk.get c)∧H.nx=h3.nx+2∧H.wm≤p∧H.get (h3.nx+1)=some (.row 72 (ndL y r3 l3) 0 false):=by
    intro k3 d3 c3 w3' s3 hd3 hd3'
    have ed:(((d3:Nat):Int) - 1)=((d3 - 1:Nat):Int):=by omega
    obtain⟨H,e,g',nx,wm,_,wp,w,gp⟩:=qu_ok h h1 h3 p ts.length E k d k3 d3 c3 w3' n (tsR b ts) y r3 l3 s.pp hp (by omega) g3 s3.pp (by omega) s3.lt (by omega) es e1 e3
    have s4:QSt m (pt h3 p 160 [tsV b ts,iv ((k3:Nat):Int),iv (E:Int),iv ((d3 - 1:Nat):Int),iv ((c3:Nat):Int),iv ((w3':Nat):Int)]) p b ts E k3 (d3 - 1) c3 w3':=s3.fr (Fr.put _ _ _ s3.lt) (Heap.get_put_same _ _ _ s3.lt) s3.kT
    refine⟨_,H,e,Fr.put _ _ _ s3.lt,rfl,s4,fun c hc hn=>?_,nx,wp,w⟩
    by_cases hcp:c=p
    ·subst hcp
     rw[gp,ed]
     exact(Heap.get_put_same _ _ _ s3.lt).symm
    ·exact(g' c hc hn hcp).trans (Heap.get_put_other _ _ _ _ s3.lt hcp).symm
   cases hg2:g (k+1) with
   |err pos c=>
    rw[hg2] at R3
    obtain⟨hc,k',d',hd1,hd2,s3⟩:=R3
    obtain⟨hk,H,e,F34,n4,s4,g',nx,wp,w⟩:=fin3 k' d' c pos s3 hd1 hd2
    exact resq (lo:=h.nx+1) e s (T3.trans F34) (fun c hc hd=>g' c hc (by omega)) (by omega) wp ⟨hc,k',d' - 1,by omega,by omega,s4⟩
   |ok u k2=>
    rw[hg2] at R3
    obtain⟨N3,s3⟩:=R3
    obtain⟨hk,H,e,F34,n4,s4,g',nx,wp,w⟩:=fin3 k2 (d+1) 0 0 s3 (by omega) (by omega)
    refine resq (lo:=h.nx+1) e s (T3.trans F34) (fun c hc hd=>g' c hc (by omega)) (by omega) wp ⟨?_,s4⟩
    refine NodeC.mk (P:=fun c=>h.nx≤c∧c < H.nx) (ts:=[u]) (es:=0) (ro:=false) (cs:=ndL y r3 l3) _ ⟨by omega,by omega⟩ w ?_
    unfold ArgsC
    refine⟨y,r3,l3,[],by rw[List.append_nil],NodeC.mono (fun c o hc e=>?_) N3,?_⟩
    ·have hc1:h1.nx≤c:=hc.1
     have hc2:=Heap.lt_of_get e
     exact⟨⟨by omega,by omega⟩,(g' c (by omega) (by omega)).trans ((F34.get c hc2 (by omega)).trans e)⟩
    unfold ArgsC;rfl
end
end Go.PanE
namespace Go.PanE
open Go.Proofs
def cmpO:List (List UInt8):=[[61],[60,62],[60],[60,61],[62],[62,61]]
section
variable {m:Int} {p b:Nat} {ts:List Tk} {E:Nat}
theorem sg_ne{ops:List (List UInt8)}{k:Nat}{s:List UInt8}(h:sg ts ops k=some s)(ho:[] ∉ ops):s≠[]:=by
 rintro rfl
 exact ho (sg_mem h).1
theorem qform_law{f:PR}{d N:Nat}(hf:LawQ m p b ts E N 110 d f)(hN:3≤N):LawQ m p b ts E (N+1) 78 d (formP ts f):=by
 intro n h k hn s
 obtain⟨n,rfl⟩:∃ m,n=m+1:=⟨n - 1,by omega⟩
 have K0:Kp h.fresh (al h.fresh 72 z72):=(Kp.refl _).al 72 z72
 have hp:=s.lt
 have hT:=s.tT
 obtain⟨v1,h1,e1,F1,_,wp1,x,r,l,rfl,R1⟩:=hf n _ k (by omega) (s.fresh.kp K0)
 have l1:h.nx+1≤h1.nx:=F1.nx
 have g1:h1.get h.nx=some (.row 72 z72 0 false):=(F1.get h.nx (Nat.lt_succ_self _) (by omega)).trans (Heap.get_new h.fresh _)
 have T1:=(K0.fr p).trans F1
 have K1:Kp h1 (al (pt (al h1 72 z72) h1.nx 72 (ndL x r l)) 9 [.string ⟨#[61]⟩,.string ⟨#[60,62]⟩,.string ⟨#[60]⟩,.string ⟨#[60,61]⟩,.string ⟨#[62]⟩,.string ⟨#[62,61]⟩]):=(((Kp.refl h1).al _ _).pt _ _ (Nat.le_refl _) (Nat.lt_succ_self _)).al _ _
 unfold formP
 cases hu:f k with
 |err pos c=>
  rw[hu] at R1
  obtain⟨hc,k',d',hd1,hd2,s1⟩:=R1
  have eo:=qone_law (ops:=cmpO) (q:=h1.nx+1) (s1.kp K1) (Heap.get_new _ _) (by decide) n (by omega)
  rw[if_neg hc] at eo
  obtain⟨H,e,g,nx,wm,_⟩:=qfo_no h h1 p ts.length E n x r l hp g1 l1 e1 eo
  exact resq (lo:=h.nx+1) e s T1 (fun c hc hd=>g c hc (by omega)) (by omega) (by omega) ⟨hc,k',d',hd1,hd2,s1⟩
 |ok t k1=>
  rw[hu] at R1
  obtain⟨N1,s1⟩:=R1
  have s1':=s1.kp K1
  have eo:=qone_law (ops:=cmpO) (q:=h1.nx+1) s1' (Heap.get_new _ _) (by decide) n (by omega)
  rw[if_pos rfl] at eo
  simp only
  cases hs:sg ts [[61],[60,62],[60],[60,61],[62],[62,61]] k1 with
  |none=>
   rw[show sg ts cmpO k1=none from hs] at eo
   obtain⟨H,e,g,nx,wm,_⟩:=qfo_no h h1 p ts.length E n x r l hp g1 l1 e1 eo
   refine resq (lo:=h.nx+1) e s T1 (fun c hc hd=>g c hc (by omega)) (by omega) (by omega) ⟨NodeC.mono (fun c o hc e=>?_) N1,s1⟩
   have hc1:h.nx+1≤c:=hc.1
   exact⟨⟨by omega,by have:=hc.2;omega⟩,(g c (Heap.lt_of_get e) (by omega)).trans e⟩
  |some sn=>
   rw[show sg ts cmpO k1=some sn from hs] at eo
   have hk1:=sg_lt ts hs
   have hne:=sg_ne hs (by decide)
   have s2:QSt m (pt (al (pt (al h1 72 z72) h1.nx 72 (ndL x r l)) 9 [.string ⟨#[61]⟩,.string ⟨#[60,62]⟩,.string ⟨#[60]⟩,.string ⟨#[60,61]⟩,.string ⟨#[62]⟩,.string ⟨#[62,61]⟩]) p 160 [tsV b ts,iv (((k1:Nat):Int)+1),iv (E:Int),iv ((d:Nat):Int),iv ((0:Nat):Int),iv ((0:Nat):Int)]) p b ts E (k1+1) d 0 0:=s1'.fr (Fr.put _ _ _ s1'.lt) (Heap.get_put_same _ _ _ s1'.lt) (by omega)
   have F2:Fr h1 (pt (al (pt (al h1 72 z72) h1.nx 72 (ndL x r l)) 9 [.string ⟨#[61]⟩,.string ⟨#[60,62]⟩,.string ⟨#[60]⟩,.string ⟨#[60,61]⟩,.string ⟨#[62]⟩,.string ⟨#[62,61]⟩]) p 160 [tsV b ts,iv (((k1:Nat):Int)+1),iv (E:Int),iv ((d:Nat):Int),iv ((0:Nat):Int),iv ((0:Nat):Int)]) p:=(K1.fr p).trans (Fr.put _ _ _ s1'.lt)
   have nP:(pt (al (pt (al h1 72 z72) h1.nx 72 (ndL x r l)) 9 [.string ⟨#[61]⟩,.string ⟨#[60,62]⟩,.string ⟨#[60]⟩,.string ⟨#[60,61]⟩,.string ⟨#[62]⟩,.string ⟨#[62,61]⟩]) p 160 [tsV b ts,iv (((k1:Nat):Int)+1),iv (E:Int),iv ((d:Nat):Int),iv ((0:Nat):Int),iv ((0:Nat):Int)]).nx=h1.nx+2:=rfl
   have gx:(pt (al (pt (al h1 72 z72) h1.nx 72 (ndL x r l)) 9 [.string ⟨#[61]⟩,.string ⟨#[60,62]⟩,.string ⟨#[60]⟩,.string ⟨#[60,61]⟩,.string ⟨#[62]⟩,.string ⟨#[62,61]⟩]) p 160 [tsV b ts,iv (((k1:Nat):Int)+1),iv (E:Int),iv ((d:Nat):Int),iv ((0:Nat):Int),iv ((0:Nat):Int)]).get h1.nx=some (.row 72 (ndL x r l) 0 false):=gO (gA (gP (Nat.lt_succ_self _))) s1'.lt (by omega)
   obtain⟨v2,h2,e2,F3,_,wp2,y,r2,l2,rfl,R2⟩:=hf n _ (k1+1) (by omega) s2
   have l2':=F3.nx
   rw[nP] at l2'
   have F12:=F2.trans F3
   have gx2:=(F3.get h1.nx (by omega) (by omega)).trans gx
   obtain⟨h3,e3,K3,n3,w3⟩:=qpair_raw (h:=h2) (x:=x) (xr:=r) (xn:=l) (y:=y) (yr:=r2) (yn:=l2) sn n (by omega)
   have ens:(!((⟨⟨sn⟩⟩:ByteArray).data.toList==(⟨#[]⟩:ByteArray).data.toList))=true:=by
    have:=beqL sn []
    rw[decide_eq_false hne] at this
    rw[show((⟨⟨sn⟩⟩:ByteArray).data.toList==(⟨#[]⟩:ByteArray).data.toList)=false from this];rfl
   obtain⟨H,e,g',nx,wm,_⟩:=qfo_ok h h1 h2 h3 p ts.length E k1 d n sn (tsR b ts) x r l y r2 l2 (hdOp 5 sn) (some ⟨h2.nx+3,0,none⟩) 2 hp g1 s1.pp (by omega) s1.lt (by omega) gx2 (by omega) ((K3.get _ (by omega)).trans ((F12.get _ (by omega) (by omega)).trans g1)) (by omega) e1 eo ens e2 e3
   have T3:=(T1.trans F12).trans (K3.fr p)
   have wp:H.wm≤p:=by have:=K3.wm;omega
   simp only
   cases hg2:f (k1+1) with
   |err pos c=>
    rw[hg2] at R2
    obtain⟨hc,k',d',hd1,hd2,s3⟩:=R2
    exact resq (lo:=h.nx+1) e s T3 (fun c hc hd=>g' c hc (by omega)) (by omega) wp ⟨hc,k',d',hd1,hd2,s3.kp K3⟩
   |ok u k2=>
    rw[hg2] at R2
    obtain⟨N2,s3⟩:=R2
    refine resq (lo:=h.nx+1) e s T3 (fun c hc hd=>g' c hc (by omega)) (by omega) wp ⟨?_,s3.kp K3⟩
    have gH:∀ c o,h.nx+1≤c→h2.get c=some o→H.get c=some o:=fun c o hc e=>(g' c (by have:=Heap.lt_of_get e;omega) (by omega)).trans ((K3.get c (Heap.lt_of_get e)).trans e)
    refine NodeC.mk (P:=fun c=>h.nx≤c∧c < H.nx) (ts:=[t,u]) (es:=0) (ro:=false) (cs:=ndL x r l++ndL y r2 l2) _ ⟨by omega,by omega⟩ ((g' _ (by omega) (by omega)).trans w3) ?_
    unfold ArgsC
    refine⟨x,r,l,ndL y r2 l2,rfl,NodeC.mono (fun c o hc e=>?_) N1,?_⟩
    ·have hc1:h.nx+1≤c:=hc.1
     exact⟨⟨by omega,by have:=hc.2;omega⟩,gH c o hc1 ((F12.get c (Heap.lt_of_get e) (by omega)).trans e)⟩
    unfold ArgsC
    refine⟨y,r2,l2,[],by rw[List.append_nil],NodeC.mono (fun c o hc e=>?_) N2,?_⟩
    ·have hc1:h1.nx+2≤c:=hc.1
     exact⟨⟨by omega,by have:=hc.2;omega⟩,gH c o (by omega) e⟩
    unfold ArgsC;rfl
end
end Go.PanE
namespace Go.PanE
open Go.Proofs
section
variable {m:Int} {p b:Nat} {ts:List Tk} {E:Nat}
theorem qa_loop{f:PR}{d N:Nat}(hf:LawQ m p b ts E N 151 d f)(hpr:Prog ts f)(hd:d≤41)(hN:3≤N)(n:Nat)(hn:N≤n)(B2 B3 lo:Nat)(hB:B2 < B3)(hlo:B2 < lo)(hpB:p < B2):
  ∀ (e i k:Nat) (t:Tr) (x:Hd) (r:Option Addr) (l:Nat) (h:Heap),i+e=400→ts.length - k < e→lo≤h.nx→QSt m h p b ts E k d 0 0→NodeC h (fun c=>lo≤c∧c≠B3) x r l t→h.get B3=some (.row 72 (ndL x r l) 0 false)→h.wm≤p→
   ∃ hL R x' r' l',R≤e+1∧h.nx≤hL.nx∧(∀ c,c < B3→c≠p→(c≤B2∨False)→hL.get c=h.get c)∧hL.wm≤p∧Loops En (RD n) 30 5000 (sub [1,1,0,1,0,0] (bodyOf Tryz.f110)) [(0,pv p 0),(2,pv B2 0),(3,pv B3 0),(4,iv ((i:Nat):Int))] h (.exit 0) [(2,pv B2 0),(3,pv B3 0)] hL R∧hL.get B3=some (.row 72 (ndL x' r' l') 0 false)∧
    match rowF ts sumO f e t k with
    | .ok t' k'=>NodeC hL (fun c=>lo≤c∧c≠B3) x' r' l' t'∧QSt m hL p b ts E k' d 0 0
    | .err pos c=>c≠0∧∃ k' d',d≤d'∧d'≤41∧QSt m hL p b ts E k' d' c pos:=by
 intro e
 induction e with
 |zero=>intro i k t x r l h _ hk;omega
 |succ e ih=>
  intro i k t x r l h hi hk hnx s Nx g3 hw
  have hp:=s.lt
  have hT:=s.tT
  have h6:=s.p6
  have hB3:=Heap.lt_of_get g3
  have K1:Kp h (al h 9 [.string ⟨#[43]⟩,.string ⟨#[45]⟩,.string ⟨#[38]⟩]):=(Kp.refl h).al _ _
  have s1:=s.kp K1
  have eo:=qone_law (ops:=sumO) (q:=h.nx) s1 (Heap.get_new _ _) (by decide) n (by omega)
  rw[if_pos rfl] at eo
  have hdec:decide (((i:Nat):Int) < 400)=true:=lt_dec (b:=400) (by omega)
  simp only[rowF]
  cases hs:sg ts sumO k with
  |none=>
   rw[hs] at eo
   obtain⟨H,eb,g,nx,wm⟩:=qa_no h p B2 B3 i n x r l g3 hB3 (by omega) hdec eo
   exact⟨H,1,x,r,l,by omega,by omega,fun c hc _ _=>g c (by omega),by omega,.out eb,(g _ hB3).trans g3,Nx.mono fun c o hc e=>⟨hc,(g c (Heap.lt_of_get e)).trans e⟩,s.keep (by omega) g⟩
  |some sn=>
   rw[hs] at eo
   have hk1:=sg_lt ts hs
   have hne:=sg_ne hs (by decide)
   have s2:QSt m (pt (al h 9 [.string ⟨#[43]⟩,.string ⟨#[45]⟩,.string ⟨#[38]⟩]) p 160 [tsV b ts,iv (((k:Nat):Int)+1),iv (E:Int),iv ((d:Nat):Int),iv ((0:Nat):Int),iv ((0:Nat):Int)]) p b ts E (k+1) d 0 0:=s1.fr (Fr.put _ _ _ s1.lt) (Heap.get_put_same _ _ _ s1.lt) (by omega)
   have F2:Fr h (pt (al h 9 [.string ⟨#[43]⟩,.string ⟨#[45]⟩,.string ⟨#[38]⟩]) p 160 [tsV b ts,iv (((k:Nat):Int)+1),iv (E:Int),iv ((d:Nat):Int),iv ((0:Nat):Int),iv ((0:Nat):Int)]) p:=(K1.fr p).trans (Fr.put _ _ _ s1.lt)
   have nP:(pt (al h 9 [.string ⟨#[43]⟩,.string ⟨#[45]⟩,.string ⟨#[38]⟩]) p 160 [tsV b ts,iv (((k:Nat):Int)+1),iv (E:Int),iv ((d:Nat):Int),iv ((0:Nat):Int),iv ((0:Nat):Int)]).nx=h.nx+1:=rfl
   obtain⟨v2,h2,e2,F3,_,wp2,y,r2,l2,rfl,R2⟩:=hf n _ (k+1) hn s2
   have l2':=F3.nx
   rw[nP] at l2'
   have F12:=F2.trans F3
   have gx2:=(F12.get B3 hB3 (by omega)).trans g3
   obtain⟨h3,e3,K3,n3,w3⟩:=qpair_raw (h:=h2) (x:=x) (xr:=r) (xn:=l) (y:=y) (yr:=r2) (yn:=l2) sn n (by omega)
   have gx3:=(K3.get B3 (by omega)).trans gx2
   have ens:((⟨⟨sn⟩⟩:ByteArray).data.toList==(⟨#[]⟩:ByteArray).data.toList)=false:=by
    have:=beqL sn []
    rw[decide_eq_false hne] at this
    exact this
   obtain⟨H,eb,g,nx,wm,_,w⟩:=qa_on h h2 h3 p ts.length E k d B2 B3 i n sn (tsR b ts) x r l y r2 l2 (hdOp 5 sn) (some ⟨h2.nx+3,0,none⟩) 2 g3 hB3 (by omega) s.pp hp (by omega) (by omega) gx2 (by omega) gx3 (by omega) hdec eo ens e2 e3
   have gH:∀ c,c < B3→c≠p→(c≤B2∨False)→H.get c=h.get c:=fun c hc hcp _=>(g c (by omega) (by omega)).trans ((K3.get c (by omega)).trans (F12.get c (by omega) hcp))
   have wH:H.wm≤p:=by have:=K3.wm;omega
   have away:∀ {k' d' c' w':Nat},QSt m h2 p b ts E k' d' c' w'→QSt m H p b ts E k' d' c' w':=fun s3=>by
    have s4:=s3.kp K3
    refine⟨s4.gl.fr (p:=B3) ⟨by omega,g⟩ (by omega),s4.p6,(g p s4.lt (by omega)).trans s4.pp,s4.tk.imp id fun h1=>(g b (Heap.lt_of_get h1) ?_).trans h1,s4.kT,s4.tT⟩
    rintro rfl
    rw[gx3] at h1
    cases h1
   simp only
   cases hg2:f (k+1) with
   |err pos c=>
    rw[hg2] at R2
    obtain⟨hc,k',d',hd1,hd2,s3⟩:=R2
    have sH:=away s3
    have eo2:=qone_law (ops:=sumO) (q:=H.nx) (sH.kp ((Kp.refl H).al 9 [.string ⟨#[43]⟩,.string ⟨#[45]⟩,.string ⟨#[38]⟩])) (Heap.get_new _ _) (by decide) n (by omega)
    rw[if_neg hc] at eo2
    have ei:((i:Nat):Int)+1=((i+1:Nat):Int):=rfl
    by_cases hi':i+1 < 400
    ·obtain⟨H2,eb2,g2,nx2,wm2⟩:=qa_no H p B2 B3 (i+1) n (hdOp 5 sn) (some ⟨h2.nx+3,0,none⟩) 2 w (by omega) hi' (lt_dec (b:=400) hi') eo2
     exact⟨H2,2,hdOp 5 sn,some ⟨h2.nx+3,0,none⟩,2,by omega,by omega,fun c hc hcp hd=>(g2 c (by omega)).trans (gH c hc hcp hd),by omega,.on eb (.out eb2),(g2 _ (by omega)).trans w,hc,k',d',hd1,hd2,sH.keep (by omega) g2⟩
    ·exact⟨H,2,hdOp 5 sn,some ⟨h2.nx+3,0,none⟩,2,by omega,by omega,gH,wH,.on eb (.out (qa_end H p B2 B3 (i+1) n (lt_dec' (b:=400) hi'))),w,hc,k',d',hd1,hd2,sH⟩
   |ok u k2=>
    rw[hg2] at R2
    obtain⟨N2,s3⟩:=R2
    have hk2:=hpr _ _ _ hg2
    have NH:NodeC H (fun c=>lo≤c∧c≠B3) (hdOp 5 sn) (some ⟨h2.nx+3,0,none⟩) 2 (twoT sn t u):=by
     have N3:=qpairC (P:=fun c=>lo≤c∧c≠B3) (Q:=fun c=>lo≤c∧c≠B3) (s:=sn) K3 w3 (Nx.mono fun c o hc e=>⟨hc,(F12.get c (Heap.lt_of_get e) (by omega)).trans e⟩) (NodeC.mono (fun c o hc e=>⟨⟨by have:h.nx+1≤c:=hc.1;omega,by have:h.nx+1≤c:=hc.1;omega⟩,e⟩) N2) (fun c hc _=>hc) ⟨by omega,by omega⟩
     exact N3.mono fun c o hc e=>⟨hc,(g c (Heap.lt_of_get e) hc.2).trans e⟩
    obtain⟨hL,R,x',r',l',hR,nL,gL,wL,L,gB,RL⟩:=ih (i+1) k2 (twoT sn t u) (hdOp 5 sn) (some ⟨h2.nx+3,0,none⟩) 2 H (by omega) (by omega) (by omega) (away s3) NH w wH
    exact⟨hL,R+1,x',r',l',by omega,by omega,fun c hc hcp hd=>(gL c hc hcp hd).trans (gH c hc hcp hd),wL,.on eb L,gB,RL⟩
theorem qa_law{f:PR}{d N:Nat}(hf:LawQ m p b ts E N 151 d f)(hpr:Prog ts f)(hd:d≤41)(hN:3≤N):LawQ m p b ts E (N+1) 110 d (rowP ts sumO f):=by
 intro n h k hn s
 obtain⟨n,rfl⟩:∃ m,n=m+1:=⟨n - 1,by omega⟩
 have K0:Kp h.fresh (al h.fresh 72 z72):=(Kp.refl _).al 72 z72
 have hp:=s.lt
 have hT:=s.tT
 obtain⟨v1,h1,e1,F1,_,wp1,x,r,l,rfl,R1⟩:=hf n _ k (by omega) (s.fresh.kp K0)
 have l1:h.nx+1≤h1.nx:=F1.nx
 have g1:h1.get h.nx=some (.row 72 z72 0 false):=(F1.get h.nx (Nat.lt_succ_self _) (by omega)).trans (Heap.get_new h.fresh _)
 have T1:=(K0.fr p).trans F1
 have K1:Kp h1 (pt (al h1 72 z72) h1.nx 72 (ndL x r l)):=((Kp.refl h1).al _ _).pt _ _ (Nat.le_refl _) (Nat.lt_succ_self _)
 have nP:(pt (al h1 72 z72) h1.nx 72 (ndL x r l)).nx=h1.nx+1:=rfl
 have gx:(pt (al h1 72 z72) h1.nx 72 (ndL x r l)).get h1.nx=some (.row 72 (ndL x r l) 0 false):=gP (Nat.lt_succ_self _)
 unfold rowP
 cases hu:f k with
 |err pos c=>
  rw[hu] at R1
  obtain⟨hc,k',d',hd1,hd2,s1⟩:=R1
  have eo:=qone_law (ops:=sumO) (q:=h1.nx+1) ((s1.kp K1).kp ((Kp.refl _).al 9 [.string ⟨#[43]⟩,.string ⟨#[45]⟩,.string ⟨#[38]⟩])) (Heap.get_new _ _) (by decide) n (by omega)
  rw[if_neg hc] at eo
  obtain⟨H2,eb2,g2,nx2,wm2⟩:=qa_no (pt (al h1 72 z72) h1.nx 72 (ndL x r l)) p h.nx h1.nx 0 n x r l gx (by omega) (by omega) rfl eo
  have L:Loops En (RD n) 30 5000 (sub [1,1,0,1,0,0] (bodyOf Tryz.f110)) [(0,pv p 0),(2,pv h.nx 0),(3,pv h1.nx 0),(4,iv ((0:Nat):Int))] (pt (al h1 72 z72) h1.nx 72 (ndL x r l)) (.exit 0) [(2,pv h.nx 0),(3,pv h1.nx 0)] H2 1:=.out eb2
  have KL:Kp h1 H2:=⟨by omega,fun c hc=>(g2 c (by omega)).trans (K1.get c hc),Nat.le_trans wm2 K1.wm⟩
  obtain⟨H,e,g,nx,wm,_⟩:=qa_fn h h1 H2 p n x r l x r l g1 l1 ((g2 _ (by omega)).trans gx) ((KL.get _ (by omega)).trans g1) (by omega) e1 (L.fact' (by omega) ⟨by kernel_rfl,by kernel_rfl,by kernel_rfl,by kernel_rfl,trivial⟩)
  exact resq (lo:=h.nx+1) e s (T1.trans (KL.fr p)) (fun c hc hd=>g c hc (by omega)) (by omega) (by have:=KL.wm;omega) ⟨hc,k',d',hd1,hd2,s1.kp KL⟩
 |ok t k1=>
  rw[hu] at R1
  obtain⟨N1,s1⟩:=R1
  have N1':NodeC (pt (al h1 72 z72) h1.nx 72 (ndL x r l)) (fun c=>h.nx+1≤c∧c≠h1.nx) x r l t:=NodeC.mono (fun c o hc e=>by
   have hc1:h.nx+1≤c:=hc.1
   have hc2:c < h1.nx:=hc.2
   exact⟨⟨hc1,by omega⟩,(K1.get c hc2).trans e⟩) N1
  obtain⟨hL,R,x',r',l',hR,nL,gL,wL,L,gB,RL⟩:=qa_loop hf hpr hd hN n (by omega) h.nx h1.nx (h.nx+1) (by omega) (by omega) hp 400 0 k1 t x r l _ rfl (by omega) (by omega) (s1.kp K1) N1' gx (Nat.le_trans K1.wm wp1)
  have gLh:hL.get h.nx=some (.row 72 z72 0 false):=(gL h.nx (by omega) (by omega) (.inl (Nat.le_refl _))).trans ((K1.get _ (by omega)).trans g1)
  have FL:Fr h.fresh hL p:=⟨by show h.nx≤hL.nx;omega,fun c hc hcp=>by
   have hc':c < h.nx:=hc
   exact(gL c (by omega) hcp (.inl (by omega))).trans ((K1.get c (by omega)).trans (T1.get c hc hcp))⟩
  obtain⟨H,e,g,nx,wm,_⟩:=qa_fn h h1 hL p n x r l x' r' l' g1 l1 gB gLh (by omega) e1 (L.fact' (by omega) ⟨by kernel_rfl,by kernel_rfl,by kernel_rfl,by kernel_rfl,trivial⟩)
  simp only
  refine resq (lo:=h.nx+1) e s FL (fun c hc hd=>g c hc (by omega)) (by omega) (by omega) ?_
  unfold ResR
  split at RL
  next t' k' e4=>
   try rw[e4]
   refine⟨RL.1.mono fun c o hc e=>?_,RL.2⟩
   exact⟨⟨by omega,by have:=Heap.lt_of_get e;omega⟩,(g c (Heap.lt_of_get e) (by omega)).trans e⟩
  next pos c e4=>(try rw[e4]);exact RL
theorem qm_loop{f:PR}{d N:Nat}(hf:LawQ m p b ts E N 183 d f)(hpr:Prog ts f)(hd:d≤41)(hN:3≤N)(n:Nat)(hn:N≤n)(B2 B3 lo:Nat)(hB:B2 < B3)(hlo:B2 < lo)(hpB:p < B2):
  ∀ (e i k:Nat) (t:Tr) (x:Hd) (r:Option Addr) (l:Nat) (h:Heap),i+e=400→ts.length - k < e→lo≤h.nx→QSt m h p b ts E k d 0 0→NodeC h (fun c=>lo≤c∧c≠B3) x r l t→h.get B3=some (.row 72 (ndL x r l) 0 false)→h.wm≤p→
   ∃ hL R x' r' l',R≤e+1∧h.nx≤hL.nx∧(∀ c,c < B3→c≠p→(c≤B2∨False)→hL.get c=h.get c)∧hL.wm≤p∧Loops En (RD n) 30 5000 (sub [1,1,0,1,0,0] (bodyOf Tryz.f151)) [(0,pv p 0),(2,pv B2 0),(3,pv B3 0),(4,iv ((i:Nat):Int))] h (.exit 0) [(2,pv B2 0),(3,pv B3 0)] hL R∧hL.get B3=some (.row 72 (ndL x' r' l') 0 false)∧
    match rowF ts prodO f e t k with
    | .ok t' k'=>NodeC hL (fun c=>lo≤c∧c≠B3) x' r' l' t'∧QSt m hL p b ts E k' d 0 0
    | .err pos c=>c≠0∧∃ k' d',d≤d'∧d'≤41∧QSt m hL p b ts E k' d' c pos:=by
 intro e
 induction e with
 |zero=>intro i k t x r l h _ hk;omega
 |succ e ih=>
  intro i k t x r l h hi hk hnx s Nx g3 hw
  have hp:=s.lt
  have hT:=s.tT
  have h6:=s.p6
  have hB3:=Heap.lt_of_get g3
  have K1:Kp h (al h 9 [.string ⟨#[42]⟩,.string ⟨#[47]⟩,.string ⟨#[37]⟩]):=(Kp.refl h).al _ _
  have s1:=s.kp K1
  have eo:=qone_law (ops:=prodO) (q:=h.nx) s1 (Heap.get_new _ _) (by decide) n (by omega)
  rw[if_pos rfl] at eo
  have hdec:decide (((i:Nat):Int) < 400)=true:=lt_dec (b:=400) (by omega)
  simp only[rowF]
  cases hs:sg ts prodO k with
  |none=>
   rw[hs] at eo
   obtain⟨H,eb,g,nx,wm⟩:=qm_no h p B2 B3 i n x r l g3 hB3 (by omega) hdec eo
   exact⟨H,1,x,r,l,by omega,by omega,fun c hc _ _=>g c (by omega),by omega,.out eb,(g _ hB3).trans g3,Nx.mono fun c o hc e=>⟨hc,(g c (Heap.lt_of_get e)).trans e⟩,s.keep (by omega) g⟩
  |some sn=>
   rw[hs] at eo
   have hk1:=sg_lt ts hs
   have hne:=sg_ne hs (by decide)
   have s2:QSt m (pt (al h 9 [.string ⟨#[42]⟩,.string ⟨#[47]⟩,.string ⟨#[37]⟩]) p 160 [tsV b ts,iv (((k:Nat):Int)+1),iv (E:Int),iv ((d:Nat):Int),iv ((0:Nat):Int),iv ((0:Nat):Int)]) p b ts E (k+1) d 0 0:=s1.fr (Fr.put _ _ _ s1.lt) (Heap.get_put_same _ _ _ s1.lt) (by omega)
   have F2:Fr h (pt (al h 9 [.string ⟨#[42]⟩,.string ⟨#[47]⟩,.string ⟨#[37]⟩]) p 160 [tsV b ts,iv (((k:Nat):Int)+1),iv (E:Int),iv ((d:Nat):Int),iv ((0:Nat):Int),iv ((0:Nat):Int)]) p:=(K1.fr p).trans (Fr.put _ _ _ s1.lt)
   have nP:(pt (al h 9 [.string ⟨#[42]⟩,.string ⟨#[47]⟩,.string ⟨#[37]⟩]) p 160 [tsV b ts,iv (((k:Nat):Int)+1),iv (E:Int),iv ((d:Nat):Int),iv ((0:Nat):Int),iv ((0:Nat):Int)]).nx=h.nx+1:=rfl
   obtain⟨v2,h2,e2,F3,_,wp2,y,r2,l2,rfl,R2⟩:=hf n _ (k+1) hn s2
   have l2':=F3.nx
   rw[nP] at l2'
   have F12:=F2.trans F3
   have gx2:=(F12.get B3 hB3 (by omega)).trans g3
   obtain⟨h3,e3,K3,n3,w3⟩:=qpair_raw (h:=h2) (x:=x) (xr:=r) (xn:=l) (y:=y) (yr:=r2) (yn:=l2) sn n (by omega)
   have gx3:=(K3.get B3 (by omega)).trans gx2
   have ens:((⟨⟨sn⟩⟩:ByteArray).data.toList==(⟨#[]⟩:ByteArray).data.toList)=false:=by
    have:=beqL sn []
    rw[decide_eq_false hne] at this
    exact this
   obtain⟨H,eb,g,nx,wm,_,w⟩:=qm_on h h2 h3 p ts.length E k d B2 B3 i n sn (tsR b ts) x r l y r2 l2 (hdOp 5 sn) (some ⟨h2.nx+3,0,none⟩) 2 g3 hB3 (by omega) s.pp hp (by omega) (by omega) gx2 (by omega) gx3 (by omega) hdec eo ens e2 e3
   have gH:∀ c,c < B3→c≠p→(c≤B2∨False)→H.get c=h.get c:=fun c hc hcp _=>(g c (by omega) (by omega)).trans ((K3.get c (by omega)).trans (F12.get c (by omega) hcp))
   have wH:H.wm≤p:=by have:=K3.wm;omega
   have away:∀ {k' d' c' w':Nat},QSt m h2 p b ts E k' d' c' w'→QSt m H p b ts E k' d' c' w':=fun s3=>by
    have s4:=s3.kp K3
    refine⟨s4.gl.fr (p:=B3) ⟨by omega,g⟩ (by omega),s4.p6,(g p s4.lt (by omega)).trans s4.pp,s4.tk.imp id fun h1=>(g b (Heap.lt_of_get h1) ?_).trans h1,s4.kT,s4.tT⟩
    rintro rfl
    rw[gx3] at h1
    cases h1
   simp only
   cases hg2:f (k+1) with
   |err pos c=>
    rw[hg2] at R2
    obtain⟨hc,k',d',hd1,hd2,s3⟩:=R2
    have sH:=away s3
    have eo2:=qone_law (ops:=prodO) (q:=H.nx) (sH.kp ((Kp.refl H).al 9 [.string ⟨#[42]⟩,.string ⟨#[47]⟩,.string ⟨#[37]⟩])) (Heap.get_new _ _) (by decide) n (by omega)
    rw[if_neg hc] at eo2
    have ei:((i:Nat):Int)+1=((i+1:Nat):Int):=rfl
    by_cases hi':i+1 < 400
    ·obtain⟨H2,eb2,g2,nx2,wm2⟩:=qm_no H p B2 B3 (i+1) n (hdOp 5 sn) (some ⟨h2.nx+3,0,none⟩) 2 w (by omega) hi' (lt_dec (b:=400) hi') eo2
     exact⟨H2,2,hdOp 5 sn,some ⟨h2.nx+3,0,none⟩,2,by omega,by omega,fun c hc hcp hd=>(g2 c (by omega)).trans (gH c hc hcp hd),by omega,.on eb (.out eb2),(g2 _ (by omega)).trans w,hc,k',d',hd1,hd2,sH.keep (by omega) g2⟩
    ·exact⟨H,2,hdOp 5 sn,some ⟨h2.nx+3,0,none⟩,2,by omega,by omega,gH,wH,.on eb (.out (qm_end H p B2 B3 (i+1) n (lt_dec' (b:=400) hi'))),w,hc,k',d',hd1,hd2,sH⟩
   |ok u k2=>
    rw[hg2] at R2
    obtain⟨N2,s3⟩:=R2
    have hk2:=hpr _ _ _ hg2
    have NH:NodeC H (fun c=>lo≤c∧c≠B3) (hdOp 5 sn) (some ⟨h2.nx+3,0,none⟩) 2 (twoT sn t u):=by
     have N3:=qpairC (P:=fun c=>lo≤c∧c≠B3) (Q:=fun c=>lo≤c∧c≠B3) (s:=sn) K3 w3 (Nx.mono fun c o hc e=>⟨hc,(F12.get c (Heap.lt_of_get e) (by omega)).trans e⟩) (NodeC.mono (fun c o hc e=>⟨⟨by have:h.nx+1≤c:=hc.1;omega,by have:h.nx+1≤c:=hc.1;omega⟩,e⟩) N2) (fun c hc _=>hc) ⟨by omega,by omega⟩
     exact N3.mono fun c o hc e=>⟨hc,(g c (Heap.lt_of_get e) hc.2).trans e⟩
    obtain⟨hL,R,x',r',l',hR,nL,gL,wL,L,gB,RL⟩:=ih (i+1) k2 (twoT sn t u) (hdOp 5 sn) (some ⟨h2.nx+3,0,none⟩) 2 H (by omega) (by omega) (by omega) (away s3) NH w wH
    exact⟨hL,R+1,x',r',l',by omega,by omega,fun c hc hcp hd=>(gL c hc hcp hd).trans (gH c hc hcp hd),wL,.on eb L,gB,RL⟩
theorem qm_law{f:PR}{d N:Nat}(hf:LawQ m p b ts E N 183 d f)(hpr:Prog ts f)(hd:d≤41)(hN:3≤N):LawQ m p b ts E (N+1) 151 d (rowP ts prodO f):=by
 intro n h k hn s
 obtain⟨n,rfl⟩:∃ m,n=m+1:=⟨n - 1,by omega⟩
 have K0:Kp h.fresh (al h.fresh 72 z72):=(Kp.refl _).al 72 z72
 have hp:=s.lt
 have hT:=s.tT
 obtain⟨v1,h1,e1,F1,_,wp1,x,r,l,rfl,R1⟩:=hf n _ k (by omega) (s.fresh.kp K0)
 have l1:h.nx+1≤h1.nx:=F1.nx
 have g1:h1.get h.nx=some (.row 72 z72 0 false):=(F1.get h.nx (Nat.lt_succ_self _) (by omega)).trans (Heap.get_new h.fresh _)
 have T1:=(K0.fr p).trans F1
 have K1:Kp h1 (pt (al h1 72 z72) h1.nx 72 (ndL x r l)):=((Kp.refl h1).al _ _).pt _ _ (Nat.le_refl _) (Nat.lt_succ_self _)
 have nP:(pt (al h1 72 z72) h1.nx 72 (ndL x r l)).nx=h1.nx+1:=rfl
 have gx:(pt (al h1 72 z72) h1.nx 72 (ndL x r l)).get h1.nx=some (.row 72 (ndL x r l) 0 false):=gP (Nat.lt_succ_self _)
 unfold rowP
 cases hu:f k with
 |err pos c=>
  rw[hu] at R1
  obtain⟨hc,k',d',hd1,hd2,s1⟩:=R1
  have eo:=qone_law (ops:=prodO) (q:=h1.nx+1) ((s1.kp K1).kp ((Kp.refl _).al 9 [.string ⟨#[42]⟩,.string ⟨#[47]⟩,.string ⟨#[37]⟩])) (Heap.get_new _ _) (by decide) n (by omega)
  rw[if_neg hc] at eo
  obtain⟨H2,eb2,g2,nx2,wm2⟩:=qm_no (pt (al h1 72 z72) h1.nx 72 (ndL x r l)) p h.nx h1.nx 0 n x r l gx (by omega) (by omega) rfl eo
  have L:Loops En (RD n) 30 5000 (sub [1,1,0,1,0,0] (bodyOf Tryz.f151)) [(0,pv p 0),(2,pv h.nx 0),(3,pv h1.nx 0),(4,iv ((0:Nat):Int))] (pt (al h1 72 z72) h1.nx 72 (ndL x r l)) (.exit 0) [(2,pv h.nx 0),(3,pv h1.nx 0)] H2 1:=.out eb2
  have KL:Kp h1 H2:=⟨by omega,fun c hc=>(g2 c (by omega)).trans (K1.get c hc),Nat.le_trans wm2 K1.wm⟩
  obtain⟨H,e,g,nx,wm,_⟩:=qm_fn h h1 H2 p n x r l x r l g1 l1 ((g2 _ (by omega)).trans gx) ((KL.get _ (by omega)).trans g1) (by omega) e1 (L.fact' (by omega) ⟨by kernel_rfl,by kernel_rfl,by kernel_rfl,by kernel_rfl,trivial⟩)
  exact resq (lo:=h.nx+1) e s (T1.trans (KL.fr p)) (fun c hc hd=>g c hc (by omega)) (by omega) (by have:=KL.wm;omega) ⟨hc,k',d',hd1,hd2,s1.kp KL⟩
 |ok t k1=>
  rw[hu] at R1
  obtain⟨N1,s1⟩:=R1
  have N1':NodeC (pt (al h1 72 z72) h1.nx 72 (ndL x r l)) (fun c=>h.nx+1≤c∧c≠h1.nx) x r l t:=NodeC.mono (fun c o hc e=>by
   have hc1:h.nx+1≤c:=hc.1
   have hc2:c < h1.nx:=hc.2
   exact⟨⟨hc1,by omega⟩,(K1.get c hc2).trans e⟩) N1
  obtain⟨hL,R,x',r',l',hR,nL,gL,wL,L,gB,RL⟩:=qm_loop hf hpr hd hN n (by omega) h.nx h1.nx (h.nx+1) (by omega) (by omega) hp 400 0 k1 t x r l _ rfl (by omega) (by omega) (s1.kp K1) N1' gx (Nat.le_trans K1.wm wp1)
  have gLh:hL.get h.nx=some (.row 72 z72 0 false):=(gL h.nx (by omega) (by omega) (.inl (Nat.le_refl _))).trans ((K1.get _ (by omega)).trans g1)
  have FL:Fr h.fresh hL p:=⟨by show h.nx≤hL.nx;omega,fun c hc hcp=>by
   have hc':c < h.nx:=hc
   exact(gL c (by omega) hcp (.inl (by omega))).trans ((K1.get c (by omega)).trans (T1.get c hc hcp))⟩
  obtain⟨H,e,g,nx,wm,_⟩:=qm_fn h h1 hL p n x r l x' r' l' g1 l1 gB gLh (by omega) e1 (L.fact' (by omega) ⟨by kernel_rfl,by kernel_rfl,by kernel_rfl,by kernel_rfl,trivial⟩)
  simp only
  refine resq (lo:=h.nx+1) e s FL (fun c hc hd=>g c hc (by omega)) (by omega) (by omega) ?_
  unfold ResR
  split at RL
  next t' k' e4=>
   try rw[e4]
   refine⟨RL.1.mono fun c o hc e=>?_,RL.2⟩
   exact⟨⟨by omega,by have:=Heap.lt_of_get e;omega⟩,(g c (Heap.lt_of_get e) (by omega)).trans e⟩
  next pos c e4=>(try rw[e4]);exact RL
end
end Go.PanE
