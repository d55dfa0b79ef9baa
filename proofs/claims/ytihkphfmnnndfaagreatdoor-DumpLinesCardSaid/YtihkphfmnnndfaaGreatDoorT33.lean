/-
 Part 33 of the proof of Rows.DumpLinesCardSaid. No conditions.
-/
import Derived.Test.YtihkphfmnnndfaaGreatDoorT32
namespace Go.PanE
open Go.Proofs
section
variable {m:Int} {h:Heap} {p b:Nat} {ts:List Tk} {E k d c w:Nat}
theorem QSt.any{g:Heap}{k' d' c' w':Nat}(s:QSt m h p b ts E k d c w)(hn:h.nx≤g.nx)(hg:∀ c,c < h.nx→c≠p→(6≤c→∀ cs es ro,h.get c≠some (.row 72 cs es ro))→g.get c=h.get c)
  (hp:g.get p=some (.row 160 [tsV b ts,iv ((k':Nat):Int),iv (E:Int),iv ((d':Nat):Int),iv ((c':Nat):Int),iv ((w':Nat):Int)] 0 false)) (hk:k'≤ts.length):QSt m g p b ts E k' d' c' w':=by
 have h6:=s.gl.nx
 have hp6:=s.p6
 exact⟨⟨nT h6 hn,fun b hb=>(hg b (by omega) (by omega) (fun h6=>by omega)).trans (s.gl.get b hb)⟩,hp6,hp,s.tk.imp id fun h1=>(hg b (za h1) (s.bp h1) (fun _ cs es ro e=>by rw[h1] at e;cases e)).trans h1,hk,s.tT⟩
end
def zav(ab:Nat):List Tr→OA
 |[]=>none
 |_::_=>some ⟨ab,0,none⟩
theorem uz.get5{h:Heap}{nm:Bsy}{lo B ab:Nat}{acc:List Tr}(S:uz h nm lo B ab acc):h.get B=some (.row 72 (ndL (zg 6 nm) (zav ab acc) acc.length) 0 false):=by
 rcases S with⟨rfl,S⟩|⟨e,cs,S,_⟩
 ·exact S
 ·cases acc with
  |nil=>exact absurd rfl e
  |cons u l=>exact S
theorem uz.ab{h:Heap}{nm:Bsy}{lo B ab:Nat}{acc:List Tr}(S:uz h nm lo B ab acc)(hne:acc≠[]):lo≤ab∧∃ cs,h.get ab=some (.row 72 cs 10 false):=by
 rcases S with⟨e,_⟩|⟨_,cs,_,S2,S3,_⟩
 ·exact absurd e hne
 ·exact⟨S2,cs,S3⟩
theorem zr6{h1 G:Heap}{nm:Bsy}{lo B ab bo:Nat}{acc:List Tr}(S:uz h1 nm lo B ab acc)(hG:∀ c,c < h1.nx→lo≤c→G.get c=h1.get c)(nG:h1.nx≤G.nx){x:Hd}{r:OA}{n:Nat}(gb:G.get bo=some (.row 72 (ndL x r n) 0 false))(hl:acc.length≤100):
  ∃ h3 cs',zu En G #[70,70] (.slice (zav ab acc) acc.length acc.length) (sv bo 0 1 1)=some (sv G.nx 0 (acc.length+1) (acc.length+1),h3)∧
   (∀ c,c < G.nx→(acc≠[]→c≠ab)→h3.get c=G.get c)∧h3.nx=G.nx+1∧h3.wm≤G.wm∧h3.get G.nx=some (.row 72 cs' 10 false)∧
   ∀ t,zc G (fun c=>lo≤c∧(acc≠[]→c≠ab)) x r n t→ArgsC h3 (fun c=>lo≤c∧c≠G.nx) cs' (acc++[t]):=by
 rcases S with⟨rfl,S⟩|⟨e,cs,S1,S2,S3,S4⟩
 ·have ap:=vv (c:=1) zaE gb (o:=0) (n:=1) (xs:=ndL x r n) rfl rfl (by decide) (by decide)
  refine⟨_,_,ap,fun c hc _=>zm _ _ hc,by rw[zt],by rw[zl];exact nL_ _,zb _ _,fun t N=>?_⟩
  show ArgsC _ _ _ [t]
  unfold ArgsC
  refine⟨x,r,n,[],by rw[List.append_nil],N.mono fun c o hc e=>⟨⟨hc.1,by have:=za e;omega⟩,(zm _ _ (za e)).trans e⟩,?_⟩
  unfold ArgsC;rfl
 ·have hab:=za S3
  have eA:zav ab acc=some ⟨ab,0,none⟩:=by
   cases acc with
   |nil=>exact absurd rfl e
   |cons u l=>rfl
  rw[eA]
  have ap:=qK (c:=1) (l:=acc.length) zaE ((hG ab hab S2).trans S3) (by rw[S4.length]) gb (o:=0) (n:=1) (xs:=ndL x r n) rfl rfl rfl (by decide) (by omega)
  have nk:(G.kill ab).nx=G.nx:=by rw[jb]
  have gk:∀ c,c < G.nx→c≠ab→((G.kill ab).alloc (.row 72 (cs++ndL x r n) 10 false)).get c=G.get c:=fun c hc hn=>(zm _ _ (by omega)).trans (zU _ hn)
  have g2:((G.kill ab).alloc (.row 72 (cs++ndL x r n) 10 false)).get G.nx=some (.row 72 (cs++ndL x r n) 10 false):=by rw[← nk];exact zb _ _
  refine⟨_,_,ap,fun c hc hn=>gk c hc (hn e),by rw[zt,nk],?_,g2,fun t N=>?_⟩
  ·rw[zl,vf];omega
  ·refine ArgsC.snoc (N.mono fun c o hc e'=>⟨⟨hc.1,by have:=za e';omega⟩,(gk c (za e') (hc.2 e)).trans e'⟩) (S4.mono fun c o hc e'=>⟨⟨hc.1,by have:=za e';omega⟩,(gk c (by have:=za e';omega) hc.2).trans ((hG c (za e') hc.1).trans e')⟩)
abbrev QSl(p B4 B5 i:Nat):List (Nat×Value):=[(0,pv p 0),(4,pv B4 0),(5,pv B5 0),(6,iv (i:Int))]
abbrev QSx(p B4 B5:Nat):List (Nat×Value):=[(0,pv p 0),(4,pv B4 0),(5,pv B5 0)]
abbrev QLp(n:Nat):=Loops En (RD n) 80 18446744073709551616 (sub [1,1,1,1,1,0,1,0,0] (zp Tryz.f241))
section
variable {m:Int} {p b:Nat} {ts:List Tk} {E:Nat}
theorem zqz{f:PR}{d N:Nat}(hd:d≤40)(hf:d < 40→wS m p b ts E N 78 (d+1) f)(hf0:d=40→∀ k,f k= .err 0 14)(hN:3≤N)(n:Nat)(hn:N≤n)(nm:Bsy)(B4 B5 lo:Nat)(h45:B4 < B5)(hlo:B5 < lo)(hp4:p < B4):
  ∀ (i k:Nat) (acc:List Tr) (ab:Nat) (h:Heap),i+acc.length=10→lo≤h.nx→QSt m h p b ts E k d 0 0→uz h nm lo B5 ab acc→h.get B4=some (.row 72 z72 0 false)→
   ∃ (hL:Heap) (R:Nat) (x:Hd) (r:OA) (l:Nat),R≤i+1∧h.nx≤hL.nx∧(∀ c,c < B4→c≠p→hL.get c=h.get c)∧hL.wm≤p∧
    match jQ ts E f nm i acc k with
    | .ok t k'=>∃ k1 sn,k'=k1+1∧sg ts [[41]] k1=some sn∧QLp n (QSl p B4 B5 acc.length) h (.exit 0) (QSx p B4 B5) hL R∧hL.get B5=some (.row 72 (ndL x r l) 0 false)∧hL.get B4=some (.row 72 z72 0 false)∧zc hL (fun c=>lo≤c) x r l t∧QSt m hL p b ts E k1 d 0 0
    | .err pos c=>∃ k' d',d≤d'∧d'≤41∧((QLp n (QSl p B4 B5 acc.length) h .ret [(4,pv B4 0)] hL R∧hL.get B4=some (.row 72 (ndL x r l) 0 false)∧c≠0∧QSt m hL p b ts E k' d' c pos)∨
      (QLp n (QSl p B4 B5 acc.length) h (.exit 0) (QSx p B4 B5) hL R∧hL.get B5=some (.row 72 (ndL x r l) 0 false)∧hL.get B4=some (.row 72 z72 0 false)∧((c≠0∧QSt m hL p b ts E k' d' c pos)∨(c=13∧pos=place ts E k'∧sg ts [[41]] k'=none∧QSt m hL p b ts E k' d 0 0)))):=by
 intro i
 induction i with
 |zero=>
  intro k acc ab h hi hnx s S g4
  have h5:=S.get5
  have h5l:=za h5
  have hp:=s.lt
  obtain⟨h1,e1,I1⟩:=qi s n (by omega)
  rw[if_pos rfl] at I1
  obtain⟨T1,w1⟩:=I1
  have n1:=T1.nx
  have g41:=(T1.fr.get B4 (by omega) (by omega)).trans g4
  obtain⟨H,eb,g,nx,wm,_,w⟩:=zr2 h h1 p k ts.length E d acc.length acc.length B4 B5 k d 13 (place ts E k) n (tsR b ts) (zav ab acc) nm s.pp h5 g4 (by omega) h45 hp4 h5l (by omega)
   ((T1.fr.get B5 h5l (by omega)).trans h5) (by omega) g41 (by omega) T1.st.pp (zw (b:=400) (by omega)) (eqK (k:=10) (by omega)) e1 (by rfl)
  refine⟨H,1,zg 6 nm,zav ab acc,acc.length,by omega,by omega,fun c hc hcp=>(g c (by omega) (by omega)).trans (T1.fr.get c (by omega) hcp),by omega,k,d,by omega,by omega,.inl ⟨.ret eb,w,by decide,?_⟩⟩
  refine T1.st.any (by omega) (fun c hc hcp hr=>g c hc ?_) ((g p (by omega) (by omega)).trans T1.st.pp) T1.st.kT
  rintro rfl
  exact hr (by have:=s.p6;omega) _ _ _ g41
 |succ i ih=>
  intro k acc ab h hi hnx s S g4
  have h5:=S.get5
  have h5l:=za h5
  have hp:=s.lt
  have h6:=s.p6
  have hT:=s.tT
  have a0:decide ((((acc.length:Nat):Int):Int) < 400)=true:=zw (b:=400) (by omega)
  have a1:((((acc.length:Nat):Int):Int)==10)=false:=by
   have:=eqN acc.length 10
   rw[dF (by omega)] at this
   exact this
  obtain⟨h1,wp1,I1⟩:=zaI s hd n (by omega)
  simp only[jQ]
  by_cases hd4:40≤d
  ·rw[if_pos hd4] at I1
   obtain⟨e1,T1⟩:=I1
   have n1:=T1.nx
   have g41:=(T1.fr.get B4 (by omega) (by omega)).trans g4
   obtain⟨H,eb,g,nx,wm,_,w⟩:=zxP h h1 p k ts.length E d acc.length acc.length B4 B5 n (tsR b ts) (zav ab acc) nm s.pp h5 g4 (by omega) h45 hp4 h5l (by omega)
    ((T1.fr.get B5 h5l (by omega)).trans h5) (by omega) g41 (by omega) a0 a1 e1
   rw[hf0 (by omega)]
   refine⟨H,1,zg 6 nm,zav ab acc,acc.length,by omega,by omega,fun c hc hcp=>(g c (by omega) (by omega)).trans (T1.fr.get c (by omega) hcp),by omega,k,d+1,by omega,by omega,.inl ⟨.ret eb,w,by decide,?_⟩⟩
   refine T1.st.any (by omega) (fun c hc hcp hr=>g c hc ?_) ((g p (by omega) (by omega)).trans T1.st.pp) T1.st.kT
   rintro rfl
   exact hr (by omega) _ _ _ g41
  ·rw[if_neg hd4] at I1
   obtain⟨e1,T1⟩:=I1
   have n1:=T1.nx
   have nr:(zd 1 h1).nx=h.nx+1:=by rw[zK,n1]
   obtain⟨v2,h2,e2,F2,w2,wp2,y,r,l,rfl,R2⟩:=hf (by omega) n (zd 1 h1) k (by omega) (T1.st.kp ((Kp.refl _).rs 1))
   have n2:=F2.nx
   rw[nr] at n2
   have hg2:∀ c,c < h.nx→c≠p→h2.get c=h.get c:=fun c hc hcp=>(F2.get c (by omega) hcp).trans ((wJ 1 _ (by omega)).trans (T1.fr.get c hc hcp))
   have hGg:∀ c,c < h2.nx→c≠h1.nx→(pt h2 h1.nx 72 (ndL y r l)).get c=h2.get c:=fun c hc hne=>zf _ _ _ _ (by omega) hne
   obtain⟨h3,cs',ap,g3,n3,w3,gb3,A3⟩:=zr6 (G:=pt h2 h1.nx 72 (ndL y r l)) (bo:=h1.nx) S (fun c hc hc2=>(hGg c (by omega) (by omega)).trans (hg2 c hc (by omega))) (by show h.nx≤h2.nx;omega) (gP (by omega)) (by omega)
   have nG:(pt h2 h1.nx 72 (ndL y r l)).nx=h2.nx:=rfl
   rw[nG] at ap g3 n3 gb3 A3
   have hab:acc≠[]→lo≤ab∧∃ cs,h.get ab=some (.row 72 cs 10 false):=S.ab
   have g3h:∀ c,c < h.nx→c≠p→(acc≠[]→c≠ab)→h3.get c=h.get c:=fun c hc hcp hca=>(g3 c (by omega) hca).trans ((hGg c (by omega) (by omega)).trans (hg2 c hc hcp))
   have g35:h3.get B5=some (.row 72 (ndL (zg 6 nm) (zav ab acc) acc.length) 0 false):=(g3h B5 h5l (by omega) (fun hne=>by have:=(hab hne).1;omega)).trans h5
   have g15:=(T1.fr.get B5 h5l (by omega)).trans h5
   have g25:=(hg2 B5 h5l (by omega)).trans h5
   have g3p:h3.get p=h2.get p:=(g3 p (by omega) (fun hne=>by have:=(hab hne).1;omega)).trans (hGg p (by omega) (by omega))
   have w3':h3.wm≤h2.wm:=nT w3 (by rw[ze];exact Nat.min_le_right _ _)
   have stx:∀ {H:Heap} {k3 d3 c3 w3:Nat},h3.nx≤H.nx→(∀ c,c < h3.nx→c≠p→c≠B5→H.get c=h3.get c)→H.get p=some (.row 160 [tsV b ts,iv (k3:Int),iv (E:Int),iv (d3:Int),iv (c3:Int),iv (w3:Int)] 0 false)→k3≤ts.length→QSt m H p b ts E k3 d3 c3 w3:=by
    intro H k3 d3 c3 w3 hn' hg' hp' hk'
    refine s.any (by omega) (fun c hc hcp hr=>?_) hp' hk'
    have c5:c≠B5:=by
     rintro rfl
     exact hr (by omega) _ _ _ h5
    refine(hg' c (by omega) hcp c5).trans (g3h c hc hcp fun hne=>?_)
    rintro rfl
    obtain⟨ha1,cs,ha2⟩:=hab hne
    exact hr (by omega) _ _ _ ha2
   have hp3:p < h3.nx:=by omega
   have h53:B5 < h3.nx:=by omega
   have Gs:∀ {k3 d3 c3 w3:Nat},d+1≤d3→k3≤ts.length→QSt m (pt (pt h3 B5 72 [iv 6,iv 0,iv 0,.string ⟨#[]⟩,iv 0,iv 0,iv 0,iv 0,.string ⟨⟨nm⟩⟩,sv h2.nx 0 (acc.length+1) (acc.length+1)]) p 160 [tsV b ts,iv (k3:Int),iv (E:Int),iv ((d3:Int) - 1),iv (c3:Int),iv (w3:Int)]) p b ts E k3 (d3 - 1) c3 w3:=by
    intro k3 d3 c3 w3 hd3 hk3
    have ed:((d3 - 1:Nat):Int)=((d3:Int) - 1):=by omega
    refine stx (nL_ _) (fun c hc hcp h5'=>(zf _ _ _ _ (by exact hp3) hcp).trans (zf _ _ _ _ h53 h5')) ?_ hk3
    rw[ed]
    exact zi _ _ _ (by exact hp3)
   have g4c:∀ {H:Heap},(∀ c,c < h3.nx→c≠p→c≠B5→H.get c=h3.get c)→H.get B4=some (.row 72 z72 0 false):=fun hg'=>(hg' B4 (by omega) (by omega) (by omega)).trans ((g3h B4 (by omega) (by omega) (fun hne=>by have:=(hab hne).1;omega)).trans g4)
   have ghc:∀ {H:Heap},(∀ c,c < h3.nx→c≠p→c≠B5→H.get c=h3.get c)→∀ c,c < B4→c≠p→H.get c=h.get c:=fun hg' c hc hcp=>(hg' c (by omega) hcp (by omega)).trans (g3h c (by omega) hcp (fun hne=>by have:=(hab hne).1;omega))
   cases hfk:f k with
   |err pos c=>
    rw[hfk] at R2
    obtain⟨hc,k',d',hd1,hd2,s2⟩:=R2
    have es:=jG (Gs (k3:=k') (d3:=d') (c3:=c) (w3:=pos) hd1 s2.kT) [44] n (by omega)
    rw[dF hc,Bool.false_and] at es
    obtain⟨H,eb,g,nx,wm,wp,_,gp,w⟩:=zmh h h1 h2 h3 p k ts.length E d acc.length acc.length B4 B5 k' d' c pos n (tsR b ts) (zav ab acc) nm y r l s.pp h5 g4 (by omega) h45 hp4 h5l (by omega) g15 g25 g35 h53 (g3p.trans s2.pp) hp3 (by omega) (by have:=s2.kT;omega) a0 a1 e1 e2 ap es
    have ed:((d' - 1:Nat):Int)=(((d':Nat):Int) - 1):=by omega
    refine⟨H,1,zg 6 nm,some ⟨h2.nx,0,none⟩,acc.length+1,by omega,by omega,ghc g,wp,k',d' - 1,by omega,by omega,.inr ⟨.out eb,w,g4c g,.inl ⟨hc,stx (by omega) g ?_ s2.kT⟩⟩⟩
    rw[ed]
    exact gp
   |ok t k1=>
    rw[hfk] at R2
    obtain⟨N2,s2⟩:=R2
    have hk1:=s2.kT
    have es:=jG (Gs (k3:=k1) (d3:=d+1) (c3:=0) (w3:=0) (nL_ _) hk1) [44] n (by omega)
    rw[dT rfl,Bool.true_and] at es
    have NG:zc (pt h2 h1.nx 72 (ndL y r l)) (fun c=>lo≤c∧(acc≠[]→c≠ab)) y r l t:=zc.mono (fun c o hc e=>by
     have hc1:(zd 1 h1).nx≤c:=hc.1
     rw[nr] at hc1
     refine⟨⟨by omega,fun hne=>?_⟩,(hGg c (za e) (by omega)).trans e⟩
     obtain⟨_,cs,ha2⟩:=hab hne
     have:=za ha2
     omega) N2
    have AT:=A3 t NG
    have lenA:(acc++[t]).length=acc.length+1:=by rw[lA];rfl
    have ed:(((d+1:Nat):Int) - 1)=(d:Int):=by omega
    simp only
    cases hs:sg ts [[44]] k1 with
    |some sn=>
     rw[hs] at es
     have hk1':=qR ts hs
     obtain⟨H,eb,g,nx,wm,wp,_,gp,w⟩:=zxO h h1 h2 h3 p k ts.length E d acc.length acc.length B4 B5 k1 (d+1) 0 0 n (tsR b ts) (zav ab acc) nm y r l s.pp h5 g4 (by omega) h45 hp4 h5l (by omega) g15 g25 g35 h53 (g3p.trans s2.pp) hp3 (by omega) (by omega) a0 a1 e1 e2 ap es
     have sH:QSt m H p b ts E (k1+1) d 0 0:=stx (by omega) g (by rw[gp];show some (AObj.row 160 [_,_,_,_,_,_] 0 false)=_;rw[ed];rfl) (by omega)
     have SA:uz H nm lo B5 h2.nx (acc++[t]):=by
      refine .inr ⟨by simp,cs',by rw[lenA];exact w,by omega,(g _ (by omega) (by omega) (by omega)).trans gb3,AT.mono fun c o hc e=>⟨hc,(g c (za e) (by have:=hc.1;omega) (by have:=hc.1;omega)).trans e⟩⟩
     obtain⟨hL,R,x',r',l',hR,nL,gL,wL,RL⟩:=ih (k1+1) (acc++[t]) h2.nx H (by rw[lenA];omega) (by omega) sH SA (g4c g)
     rw[lenA] at RL
     refine⟨hL,R+1,x',r',l',by omega,by omega,fun c hc hcp=>(gL c hc hcp).trans (ghc g c hc hcp),wL,?_⟩
     simp only
     split at RL
     next t' k' e4=>
      obtain⟨k1',sn',h1',h2',L,rest⟩:=RL
      exact⟨k1',sn',h1',h2',.on eb L,rest⟩
     next pos c e4=>
      obtain⟨k',d',hd1,hd2,⟨L,rest⟩|⟨L,rest⟩⟩:=RL
      ·exact⟨k',d',hd1,hd2,.inl ⟨.on eb L,rest⟩⟩
      ·exact⟨k',d',hd1,hd2,.inr ⟨.on eb L,rest⟩⟩
    |none=>
     rw[hs] at es
     obtain⟨H,eb,g,nx,wm,wp,_,gp,w⟩:=zmh h h1 h2 h3 p k ts.length E d acc.length acc.length B4 B5 k1 (d+1) 0 0 n (tsR b ts) (zav ab acc) nm y r l s.pp h5 g4 (by omega) h45 hp4 h5l (by omega) g15 g25 g35 h53 (g3p.trans s2.pp) hp3 (by omega) (by omega) a0 a1 e1 e2 ap es
     have sH:QSt m H p b ts E k1 d 0 0:=stx (by omega) g (by rw[gp];show some (AObj.row 160 [_,_,_,_,_,_] 0 false)=_;rw[ed];rfl) hk1
     refine⟨H,1,zg 6 nm,some ⟨h2.nx,0,none⟩,acc.length+1,by omega,by omega,ghc g,wp,?_⟩
     simp only
     cases hs4:sg ts [[41]] k1 with
     |none=>exact⟨k1,d,nL_ _,by omega,.inr ⟨.out eb,w,g4c g,.inr ⟨rfl,rfl,hs4,sH⟩⟩⟩
     |some sn=>
      refine⟨k1,sn,rfl,hs4,.out eb,w,g4c g,?_,sH⟩
      have tr:∀ c o,lo≤c→h3.get c=some o→H.get c=some o:=fun c o hc e=>(g c (za e) (by omega) (by omega)).trans e
      have:=zc.mk (P:=fun c=>lo≤c) (ts:=acc++[t]) (cs:=cs') (zg 6 nm) (by show lo≤h2.nx;omega) (tr _ _ (by omega) gb3) (AT.mono fun c o hc e=>⟨hc.1,tr c o hc.1 e⟩)
      rw[lenA] at this
      exact this
def hB1(h:Heap)(p b:Nat)(ts:List Tk)(E k d:Nat)(x:Tk):Heap:=pt (al (pt (hA1 h x) p 160 [tsV b ts,iv ((k:Int)+2),iv (E:Int),iv (d:Int),iv 0,iv 0]) 72 z72) (h.nx+2) 72 [iv 6,iv 0,iv 0,.string ⟨#[]⟩,iv 0,iv 0,iv 0,iv 0,.string ⟨⟨x.t⟩⟩,.slice none 0 0]
theorem zld{f:PR}{d N:Nat}(hd:d≤40)(hf:d < 40→wS m p b ts E N 78 (d+1) f)(hf0:d=40→∀ k,f k= .err 0 14)(hN:3≤N):
  ∀ (n:Nat) (h:Heap) (k:Nat) (x:Tk),N+1≤n→ts[k]? =some x→jC ts k=true→QSt m h p b ts E k d 0 0→∃ v h',RD n 241 [pv p 0,tkV x] h=some (v,h')∧za1 m h p b ts E d (yf ts E f x k) v h':=by
 intro n h k x hn hx ho s
 obtain⟨n,rfl⟩:=zs_ n
 have hp:=s.lt
 have hT:=s.tT
 have hk2:k+1 < ts.length:=by
  unfold jC at ho
  cases hs:sg ts [[40]] (k+1) with
  |none=>rw[hs] at ho;cases ho
  |some v=>exact qR ts hs
 have KA:=zgZ h x
 have gA:=zeS h x
 have nA:=zlT h x
 have sA:=s.fh.kp KA
 unfold yf
 by_cases h8:8 < x.t.length
 ·rw[if_pos h8]
  obtain⟨h1,e1,I1⟩:=qi sA n (by omega)
  rw[if_pos rfl] at I1
  obtain⟨T1,w1⟩:=I1
  have n1:=T1.nx
  obtain⟨H,e,g,nx,wm,_⟩:=zqA h h1 p n x ((T1.fr.get _ (by omega) (by omega)).trans gA) (by omega) (wj (a:=x.t.length) (b:=8) (by omega)) e1
  exact resq_err (lo:=h.nx+1) e s ((KA.fr p).trans T1.fr) g (by omega) nx (by omega) (by decide) (nL_ _) (by omega) T1.st
 rw[if_neg h8]
 have e8:=zR (a:=x.t.length) (b:=8) (by omega)
 have hpA:p < (hA1 h x).nx:=by omega
 have nB:(hB1 h p b ts E k d x).nx=h.nx+3:=rfl
 have hB2:h.nx+2 < (al (pt (hA1 h x) p 160 [tsV b ts,iv ((k:Int)+2),iv (E:Int),iv (d:Int),iv 0,iv 0]) 72 z72).nx:=by show h.nx+2 < h.nx+3;omega
 have KB:Kp (pt (hA1 h x) p 160 [tsV b ts,iv ((k:Int)+2),iv (E:Int),iv (d:Int),iv 0,iv 0]) (hB1 h p b ts E k d x):=((Kp.refl _).al 72 z72).pt (b:=h.nx+2) _ _ (nL_ _) hB2
 have FB:Fr h.fh (hB1 h p b ts E k d x) p:=((KA.fr p).trans (Fr.put _ _ _ hpA)).trans (KB.fr p)
 have sB:QSt m (hB1 h p b ts E k d x) p b ts E (k+2) d 0 0:=(sA.fr (k':=k+2) (d':=d) (c':=0) (w':=0) (Fr.put _ _ _ hpA) (zi _ _ _ hpA) (by omega)).kp KB
 have gB1:(hB1 h p b ts E k d x).get (h.nx+1)=some (.row 72 z72 0 false):=(KB.get (h.nx+1) (by show h.nx+1 < h.nx+2;omega)).trans (gO gA hpA (by omega))
 have gB2:(hB1 h p b ts E k d x).get (h.nx+2)=some (.row 72 (ndL (zg 6 x.t) none 0) 0 false):=gP hB2
 have es:=jG sB [41] n (by omega)
 rw[dT rfl,Bool.true_and] at es
 cases hs:sg ts [[41]] (k+2) with
 |some sn=>
  rw[hs] at es
  have:=qR ts hs
  obtain⟨H,e,g,nx,wm,wp,w⟩:=ztm h p k ts.length E d n (tsR b ts) x s.pp hp (by omega) e8 es
  exact qX (x:=zg 6 x.t) (k':=k+2+1) e s g (by omega) wp w (by omega)
 |none=>
  rw[hs] at es
  simp only
  obtain⟨hL,R,y,r,l,hR,nL,gL,wL,RL⟩:=zqz hd hf hf0 hN n (by omega) x.t (h.nx+1) (h.nx+2) (h.nx+3) (by omega) (by omega) (by omega) 10 (k+2) [] 0 (hB1 h p b ts E k d x) rfl (by rw[nB];exact nL_ _) sB (.inl ⟨rfl,gB2⟩) gB1
  rw[nB] at nL
  have FL:Fr h.fh hL p:=⟨by show h.nx≤hL.nx;omega,fun c hc hcp=>(gL c (by have:c < h.nx:=hc;omega) hcp).trans (FB.get c hc hcp)⟩
  have exit:∀ {R':Res} {h1:Heap} (_L:QLp n (QSl p (h.nx+1) (h.nx+2) 0) (hB1 h p b ts E k d x) (.exit 0) (QSx p (h.nx+1) (h.nx+2)) hL R) (_g5:hL.get (h.nx+2)=some (.row 72 (ndL y r l) 0 false)) (_g4:hL.get (h.nx+1)=some (.row 72 z72 0 false)) (_e1:RD n 233 [pv p 0] hL=some (.tuple #[],h1)) (_F1:Fr hL h1 p) (_w1:h1.wm≤p) (_n1:h1.nx=hL.nx)
    (_hR:∀ H:Heap,(∀ c,c < h1.nx→c≠h.nx+1→H.get c=h1.get c)→H.nx=h1.nx→zbK m h H h1 p b ts E d R' y r l),
    ∃ v h',RD (n+1) 241 [pv p 0,tkV x] h=some (v,h')∧za1 m h p b ts E d R' v h':=by
   intro R' h1 L g5 g4 e1 F1 w1 n1 hR'
   obtain⟨H,e,g,nx,wm,_⟩:=zwb h hL h1 p k ts.length E d n (tsR b ts) x y r l s.pp hp (by omega) ((F1.get _ (by omega) (by omega)).trans g5) ((F1.get _ (by omega) (by omega)).trans g4) (by omega) e8 es (L.fact2 (by omega) (by kernel_rfl)) e1
   exact jw (lo:=h.nx+2) e s (FL.trans F1) (fun c hc hd=>g c hc (by omega)) (by omega) (by omega) (hR' H g nx)
  split at RL
  next t k' ek=>
   rw[ek]
   obtain⟨k1,sn,rfl,hs4,L,g5,g4,NL,sL⟩:=RL
   obtain⟨h1,e1,I1⟩:=vY sL n (by omega)
   rw[if_pos rfl,hs4] at I1
   obtain⟨w1,T1⟩:=I1
   refine exit L g5 g4 e1 T1.fr w1 T1.nx fun H g nx=>⟨zc.mono (fun c o hc e=>?_) NL,T1.st⟩
   have n1:=T1.nx
   have hl:=za e
   have hc':h.nx+3≤c:=hc
   exact⟨⟨by omega,by omega⟩,(g c (by omega) (by omega)).trans ((T1.fr.get c hl (by omega)).trans e)⟩
  next pos c ek=>
   rw[ek]
   obtain⟨k',d',hd1,hd2,⟨L,g4,hc,sL⟩|⟨L,g5,g4,⟨hc,sL⟩|⟨hc,hpos,hs4,sL⟩⟩⟩:=RL
   ·have e:=ztl h hL p k ts.length E d n (tsR b ts) x y r l s.pp hp (by omega) g4 e8 es (L.fact2 (by omega) (by kernel_rfl))
    exact jw (lo:=0) (hk:=hL) e s FL (fun _ _ _=>rfl) (nL_ _) wL ⟨hc,k',d',hd1,hd2,sL⟩
   ·obtain⟨h1,e1,I1⟩:=vY sL n (by omega)
    rw[if_neg hc] at I1
    subst I1
    exact exit L g5 g4 e1 (Fr.refl _ _) wL rfl fun H g nx=>⟨hc,k',d',hd1,hd2,sL⟩
   ·obtain⟨h1,e1,I1⟩:=vY sL n (by omega)
    rw[if_pos rfl,hs4] at I1
    obtain⟨w1,T1⟩:=I1
    subst hc hpos
    exact exit L g5 g4 e1 T1.fr w1 T1.nx fun H g nx=>⟨by decide,k',d,nL_ _,by omega,T1.st⟩
end
section
variable {m:Int} {p b:Nat} {ts:List Tk} {E:Nat} {A:Bsy→Option (Nat×Nat)} {N0:Nat}
theorem zqy(hA:zkp m A N0)(hlen:∀ x∈ts,x.t.length≤4000):∀ e,e≤40→
  wS m p b ts E (N0+12+10 * e) 78 (40 - e) (lv ts E A (e+1)).form∧wS m p b ts E (N0+12+10 * e) 183 (40 - e) (lv ts E A (e+1)).pow∧wS m p b ts E (N0+12+10 * e) 207 (40 - e) (lv ts E A (e+1)).un:=by
 have step:∀ e d N,d≤40→N0+3≤N→(d < 40→wS m p b ts E N 78 (d+1) (lv ts E A e).form)→(d < 40→wS m p b ts E N 183 (d+1) (lv ts E A e).pow)→(d < 40→wS m p b ts E N 207 (d+1) (lv ts E A e).un)→
   (d=40→∀ k,(lv ts E A e).form k= .err 0 14)→(d=40→∀ k,(lv ts E A e).pow k= .err 0 14)→(d=40→∀ k,(lv ts E A e).un k= .err 0 14)→
   wS m p b ts E (N+9) 78 d (lv ts E A (e+1)).form∧wS m p b ts E (N+9) 183 d (lv ts E A (e+1)).pow∧wS m p b ts E (N+9) 207 d (lv ts E A (e+1)).un:=by
  intro e d N hd hN f1 f2 f3 z1 z2 z3
  have hpr:=za6 ts E A e
  have hu:=zc7 ts (zbm ts E A hpr.1) hpr.2.2
  have hw:=zb2 ts hu hpr.2.1
  have C:=zld (p:=p) (b:=b) (E:=E) hd f1 z1 (by omega)
  have Nm:=zk9 (N:=N+1) (p:=p) (b:=b) (E:=E) hd hA hlen (fun n h k x hn=>C n h k x hn) (by omega)
  have L1:=zk7 (A:=A) (N:=N+2) hd Nm (fun h=>(f1 h).mono (by omega)) z1 (by omega)
  have L2:=zjo hd L1 (fun h=>(f3 h).mono (by omega)) z3 (by omega)
  have L3:=zjq hd L2 (fun h=>(f2 h).mono (by omega)) z2 (by omega)
  have L4:=ztj L3 hw (by omega) (by omega)
  have L5:=ztr L4 (zaF ts hw) (by omega) (by omega)
  have L6:=zla L5 (by omega)
  exact⟨L6.mono (by omega),L3.mono (by omega),L2.mono (by omega)⟩
 intro e
 induction e with
 |zero=>
  intro _
  obtain⟨a,b,c⟩:=step 0 40 (N0+3) (by omega) (by omega) (fun h=>absurd h (by omega)) (fun h=>absurd h (by omega)) (fun h=>absurd h (by omega)) (fun _ _=>rfl) (fun _ _=>rfl) (fun _ _=>rfl)
  exact⟨a.mono (by omega),b.mono (by omega),c.mono (by omega)⟩
 |succ e ih=>
  intro he
  obtain⟨i1,i2,i3⟩:=ih (by omega)
  obtain⟨d,hd⟩:∃ d,40 - (e+1)=d:=⟨_,rfl⟩
  have hd1:40 - e=d+1:=by omega
  rw[hd1] at i1 i2 i3
  rw[hd]
  obtain⟨a,b,c⟩:=step (e+1) d _ (by omega) (by omega) (fun _=>i1) (fun _=>i2) (fun _=>i3) (fun h=>absurd h (by omega)) (fun h=>absurd h (by omega)) (fun h=>absurd h (by omega))
  exact⟨a.mono (by omega),b.mono (by omega),c.mono (by omega)⟩
end
noncomputable section
abbrev ziE(M q j k:Nat):List (Nat×Value):=[(1,iv (M:Int)),(5,sv q 0 j j),(6,iv (k:Int))]
variable (h hL h1:Heap) (q j k d i l M z q1 j1 n:Nat) (r rk r1:OA) (y:Hd) (yr:OA) (yn:Nat)
theorem zt0(_hk:k < j)(_hj:j < 5000)(_hi:i < 5000)(_hM:M < 5000)(a0:LD h 70 q ((0+k * 10)+9) (.slice rk l l))(a1:decide ((i:Int) < l)=false):Bd n 50 [1,1,1,0,0,0,1,0,0,1,0,0] Tryz.f113 [(1,iv (M:Int)),(5,sv q 0 j j),(6,iv (k:Int)),(7,iv (i:Int))] h (.exit 2) (ziE M q j k) h:=
 bdF (kZ h) [iA 70 72 10 q j k,yE a0,yF a1,.z 0]
theorem zwR(bk n:Nat)(y:Hd)(yr:OA)(yn:Nat)(_hk:k < j)(_hj:j < 5000)(_hi:i < 5000)(_hM:M < 5000)(_hl:i < l)(a0:LD h 70 q ((0+k * 10)+9) (sv bk 0 l l))(a1:decide ((i:Int) < l)=true)(a2:decide ((j:Int)≤((M:Int)+1))=true)(a3:LD h 70 q ((0+k * 10)+9) (sv bk 0 l l))(a4:LD h 72 bk (0+i * 10) (ndV y yr yn))(a5:zu En (al h 72 (ndL y yr yn)) #[70,70] (sv q 0 j j) (sv h.nx 0 1 1)=some (sv q1 0 (j+1) (j+1),h1)):Bd n 50 [1,1,1,0,0,0,1,0,0,1,0,0] Tryz.f113 [(1,iv (M:Int)),(5,sv q 0 j j),(6,iv (k:Int)),(7,iv (i:Int))] h .normal [(1,iv (M:Int)),(5,sv q1 0 (j+1) (j+1)),(6,iv (k:Int)),(7,iv ((i:Int)+1))] h1:=
 bdF (kZ h) [iA 70 72 10 q j k,yE a0,yT a1,yW ((M:Int)+1),yT a2,iA 70 72 10 q j k,yE a3,iA 70 72 10 bk l i,yE a4,aS 72 (ndL y yr yn),yC a5 (kZ h1),yW ((i:Int)+1),.z 0]
theorem ztZ(_hj:j < 5000)(a0:decide ((k:Int) < j)=false):Bd n 50 [1,1,1,0,0,0] Tryz.f113 (ziE M q j k) h (.exit 0) [(6,iv (k:Int))] h:=
 bdF (kZ h) [yF a0,.z 0]
theorem zwQ(_hk:k < j)(_hj:j < 5000)(a0:decide ((k:Int) < j)=true)(a1:decide ((k:Int)≤(M:Int))=true)(a2:Lf n 50 [1,1,1,0,0,0,1,0,0,1,0,0] Tryz.f113 [(1,iv (M:Int)),(5,sv q 0 j j),(6,iv (k:Int)),(10,iv (k:Int)),(11,sv q 0 j j),(12,iv j),(13,.bool true),(14,.bool true),(15,iv (k:Int)),(16,iv (M:Int)),(17,.bool true),(18,.bool true),(7,iv 0)] h (.exit 2) [(1,iv (M:Int)),(5,sv q1 0 j1 j1),(6,iv (k:Int))] h1):Bd n 50 [1,1,1,0,0,0] Tryz.f113 (ziE M q j k) h .normal [(1,iv (M:Int)),(5,sv q1 0 j1 j1),(6,iv ((k:Int)+1))] h1:=
 bdF (kZ h) [yT a0,yT a1,yS a2 (kZ h1),yW ((k:Int)+1),.z 0]
theorem zq0(a0:Lf n 50 [1,1,1,0,0,0] Tryz.f113 [(0,ndV y yr yn),(1,iv (M:Int)),(2,pv h.nx 0),(4,iv 0),(8,ndV y yr yn),(9,sv (h.nx+1) 0 1 1),(5,sv (h.nx+1) 0 1 1),(6,iv 0)] (al (al h.fh 72 (ndL y yr yn)) 72 (ndL y yr yn)) (.exit 0) [(6,iv (z:Int))] hL):Fn n 113 [ndV y yr yn,iv (M:Int)] h (iv (z:Int)) hL:=
 fnV (kZ h) [aS 72 (ndL y yr yn),.g 0 72 0 10,aS 72 (ndL y yr yn),yS a0 (kZ hL),.z 0]
theorem zuw(k d i n:Nat)(r1:OA)(_hj:j < 5000)(a0:decide ((k:Int) < j)=false):Bd n 39 [1,1,1,1,0,1,0,0,1,0,0,1,0,1,0,0] Tryz.f80 [(3,sv q 0 j j),(4,iv (d:Int)),(5,iv (i:Int)),(6,.slice r1 j1 j1),(7,iv (k:Int))] h (.exit 2) [(4,iv (d:Int)),(5,iv (i:Int)),(6,.slice r1 j1 j1)] h:=
 bdF (kZ h) [yF a0,.z 0]
theorem zxA(j2 k l d i n:Nat)(r1 r2 rk:OA)(_hk:k < j)(_hj:j < 5000)(a0:decide ((k:Int) < j)=true)(a1:LD h 70 q ((0+k * 10)+9) (.slice rk l l))(a2:zu En h #[70,70] (.slice r1 j1 j1) (.slice rk l l)=some (.slice r2 j2 j2,h1)):Bd n 39 [1,1,1,1,0,1,0,0,1,0,0,1,0,1,0,0] Tryz.f80 [(3,sv q 0 j j),(4,iv (d:Int)),(5,iv (i:Int)),(6,.slice r1 j1 j1),(7,iv (k:Int))] h .normal [(3,sv q 0 j j),(4,iv (d:Int)),(5,iv (i:Int)),(6,.slice r2 j2 j2),(7,iv ((k:Int)+1))] h1:=
 bdF (kZ h) [yT a0,iA 70 72 10 q j k,yE a1,yC a2 (kZ h1),yW ((k:Int)+1),.z 0]
theorem zuu(_hj:j < 5000)(a0:decide ((i:Int)≤2000)=true)(a1:decide ((j:Int)>0)=false):Bd n 39 [1,1,1,1,0,1,0,0] Tryz.f80 [(3,.slice r j j),(4,iv (d:Int)),(5,iv (i:Int))] h (.exit 0) [(4,iv (d:Int))] h:=
 bdF (kZ h) [yT a0,yF a1,.z 0]
theorem zxx(_hj:j < 5000)(_hd:d < 5000)(_hi:i < 5000)(a0:decide ((i:Int)≤2000)=true)(a1:decide ((j:Int)>0)=true)(a2:Lf n 39 [1,1,1,1,0,1,0,0,1,0,0,1,0,1,0,0] Tryz.f80 [(3,.slice r j j),(4,iv (d:Int)),(5,iv (i:Int)),(13,iv (i:Int)),(14,.bool true),(15,.bool true),(16,.slice r j j),(17,iv j),(18,.bool true),(19,.bool true),(6,.slice none 0 0),(7,iv 0)] h (.exit 2) [(4,iv (d:Int)),(5,iv (i:Int)),(6,.slice r1 j1 j1)] h1):Bd n 39 [1,1,1,1,0,1,0,0] Tryz.f80 [(3,.slice r j j),(4,iv (d:Int)),(5,iv (i:Int))] h .normal [(3,.slice r1 j1 j1),(4,iv ((d:Int)+1)),(5,iv ((i:Int)+1))] h1:=
 bdF (kZ h) [yT a0,yT a1,yS a2 (kZ h1),yW ((d:Int)+1),yW ((i:Int)+1),.z 0]
theorem zrG(dd n:Nat)(y:Hd)(yr:OA)(yn:Nat)(a0:Pu n 113 [ndV y yr yn,iv 2000] (iv (z:Int)) (al h.fh 72 (ndL y yr yn)))(a1:decide ((z:Int)>2000)=false)(a2:Lf n 39 [1,1,1,1,0,1,0,0] Tryz.f80 [(0,ndV y yr yn),(1,pv h.nx 0),(2,iv 0),(8,ndV y yr yn),(9,iv (z:Int)),(10,.bool false),(11,ndV y yr yn),(12,sv (h.nx+1) 0 1 1),(3,sv (h.nx+1) 0 1 1),(4,iv 0),(5,iv 0)] (al (al h.fh 72 (ndL y yr yn)) 72 (ndL y yr yn)) (.exit 0) [(4,iv (dd:Int))] hL):Fn n 80 [ndV y yr yn] h (iv (dd:Int)) hL:=
 fnV (kZ h) [aS 72 (ndL y yr yn),.g 0 72 0 10,yP a0,yF a1,.g 0 72 0 10,aS 72 (ndL y yr yn),yS a2 (kZ hL),.z 0]
end
end Go.PanE
