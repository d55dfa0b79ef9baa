/-
 Part 31 of the proof of Rows.DumpLinesCardSaid. No conditions.
-/
import Derived.Test.YtihkphfmnnndfaaGreatDoorT30
namespace Go.PanE
open Go.Proofs
def zj8:List (Bsy):=[[61],[60,62],[60],[60,61],[62],[62,61]]
section
variable {m:Int} {p b:Nat} {ts:List Tk} {E:Nat}
theorem zi7{ops:List (Bsy)}{k:Nat}{s:Bsy}(h:sg ts ops k=some s)(ho:[] ∉ ops):s≠[]:=by
 rintro rfl
 exact ho (zdO h).1
theorem zla{f:PR}{d N:Nat}(hf:wS m p b ts E N 110 d f)(hN:3≤N):wS m p b ts E (N+1) 78 d (vr ts f):=by
 intro n h k hn s
 obtain⟨n,rfl⟩:=zs_ n
 have K0:Kp h.fh (al h.fh 72 z72):=(Kp.refl _).al 72 z72
 have hp:=s.lt
 have hT:=s.tT
 obtain⟨v1,h1,e1,F1,_,wp1,x,r,l,rfl,R1⟩:=hf n _ k (by omega) (s.fh.kp K0)
 have l1:h.nx+1≤h1.nx:=F1.nx
 have g1:h1.get h.nx=some (.row 72 z72 0 false):=(F1.get h.nx (nS _) (by omega)).trans (zb h.fh _)
 have T1:=(K0.fr p).trans F1
 have K1:Kp h1 (al (pt (al h1 72 z72) h1.nx 72 (ndL x r l)) 9 [.string ⟨#[61]⟩,.string ⟨#[60,62]⟩,.string ⟨#[60]⟩,.string ⟨#[60,61]⟩,.string ⟨#[62]⟩,.string ⟨#[62,61]⟩]):=(((Kp.refl h1).al _ _).pt _ _ (nL_ _) (nS _)).al _ _
 unfold vr
 cases hu:f k with
 |err pos c=>
  rw[hu] at R1
  obtain⟨hc,k',d',hd1,hd2,s1⟩:=R1
  have eo:=qZ (ops:=zj8) (q:=h1.nx+1) (s1.kp K1) (zb _ _) (by decide) n (by omega)
  rw[if_neg hc] at eo
  obtain⟨H,e,g,nx,wm,_⟩:=zlb h h1 p ts.length E n x r l hp g1 l1 e1 eo
  exact jw (lo:=h.nx+1) e s T1 (fun c hc hd=>g c hc (by omega)) (by omega) (by omega) ⟨hc,k',d',hd1,hd2,s1⟩
 |ok t k1=>
  rw[hu] at R1
  obtain⟨N1,s1⟩:=R1
  have s1':=s1.kp K1
  have eo:=qZ (ops:=zj8) (q:=h1.nx+1) s1' (zb _ _) (by decide) n (by omega)
  rw[if_pos rfl] at eo
  simp only
  cases hs:sg ts [[61],[60,62],[60],[60,61],[62],[62,61]] k1 with
  |none=>
   rw[show sg ts zj8 k1=none from hs] at eo
   obtain⟨H,e,g,nx,wm,_⟩:=zlb h h1 p ts.length E n x r l hp g1 l1 e1 eo
   refine jw (lo:=h.nx+1) e s T1 (fun c hc hd=>g c hc (by omega)) (by omega) (by omega) ⟨zc.mono (fun c o hc e=>?_) N1,s1⟩
   have hc1:h.nx+1≤c:=hc.1
   exact⟨⟨by omega,by have:=hc.2;omega⟩,(g c (za e) (by omega)).trans e⟩
  |some sn=>
   rw[show sg ts zj8 k1=some sn from hs] at eo
   have hk1:=qR ts hs
   have hne:=zi7 hs (by decide)
   have s2:QSt m (pt (al (pt (al h1 72 z72) h1.nx 72 (ndL x r l)) 9 [.string ⟨#[61]⟩,.string ⟨#[60,62]⟩,.string ⟨#[60]⟩,.string ⟨#[60,61]⟩,.string ⟨#[62]⟩,.string ⟨#[62,61]⟩]) p 160 [tsV b ts,iv ((k1:Int)+1),iv (E:Int),iv (d:Int),iv ((0:Nat):Int),iv ((0:Nat):Int)]) p b ts E (k1+1) d 0 0:=s1'.fr (Fr.put _ _ _ s1'.lt) (zi _ _ _ s1'.lt) (by omega)
   have F2:Fr h1 (pt (al (pt (al h1 72 z72) h1.nx 72 (ndL x r l)) 9 [.string ⟨#[61]⟩,.string ⟨#[60,62]⟩,.string ⟨#[60]⟩,.string ⟨#[60,61]⟩,.string ⟨#[62]⟩,.string ⟨#[62,61]⟩]) p 160 [tsV b ts,iv ((k1:Int)+1),iv (E:Int),iv (d:Int),iv ((0:Nat):Int),iv ((0:Nat):Int)]) p:=(K1.fr p).trans (Fr.put _ _ _ s1'.lt)
   have nP:(pt (al (pt (al h1 72 z72) h1.nx 72 (ndL x r l)) 9 [.string ⟨#[61]⟩,.string ⟨#[60,62]⟩,.string ⟨#[60]⟩,.string ⟨#[60,61]⟩,.string ⟨#[62]⟩,.string ⟨#[62,61]⟩]) p 160 [tsV b ts,iv ((k1:Int)+1),iv (E:Int),iv (d:Int),iv ((0:Nat):Int),iv ((0:Nat):Int)]).nx=h1.nx+2:=rfl
   have gx:(pt (al (pt (al h1 72 z72) h1.nx 72 (ndL x r l)) 9 [.string ⟨#[61]⟩,.string ⟨#[60,62]⟩,.string ⟨#[60]⟩,.string ⟨#[60,61]⟩,.string ⟨#[62]⟩,.string ⟨#[62,61]⟩]) p 160 [tsV b ts,iv ((k1:Int)+1),iv (E:Int),iv (d:Int),iv ((0:Nat):Int),iv ((0:Nat):Int)]).get h1.nx=some (.row 72 (ndL x r l) 0 false):=gO (gA (gP (nS _))) s1'.lt (by omega)
   obtain⟨v2,h2,e2,F3,_,wp2,y,r2,l2,rfl,R2⟩:=hf n _ (k1+1) (by omega) s2
   have l2':=F3.nx
   rw[nP] at l2'
   have F12:=F2.trans F3
   have gx2:=(F3.get h1.nx (by omega) (by omega)).trans gx
   obtain⟨h3,e3,K3,n3,w3⟩:=zaH (h:=h2) (x:=x) (xr:=r) (xn:=l) (y:=y) (yr:=r2) (yn:=l2) sn n (by omega)
   have ens:(!((⟨⟨sn⟩⟩:BA).data.toList==(⟨#[]⟩:BA).data.toList))=true:=by
    have:=zZ sn []
    rw[dF hne] at this
    rw[show((⟨⟨sn⟩⟩:BA).data.toList==(⟨#[]⟩:BA).data.toList)=false from this];rfl
   obtain⟨H,e,g',nx,wm,_⟩:=zto h h1 h2 h3 p ts.length E k1 d n sn (tsR b ts) x r l y r2 l2 (zg 5 sn) (some ⟨h2.nx+3,0,none⟩) 2 hp g1 s1.pp (by omega) s1.lt (by omega) gx2 (by omega) ((K3.get _ (by omega)).trans ((F12.get _ (by omega) (by omega)).trans g1)) (by omega) e1 eo ens e2 e3
   have T3:=(T1.trans F12).trans (K3.fr p)
   have wp:H.wm≤p:=by have:=K3.wm;omega
   simp only
   cases hg2:f (k1+1) with
   |err pos c=>
    rw[hg2] at R2
    obtain⟨hc,k',d',hd1,hd2,s3⟩:=R2
    exact jw (lo:=h.nx+1) e s T3 (fun c hc hd=>g' c hc (by omega)) (by omega) wp ⟨hc,k',d',hd1,hd2,s3.kp K3⟩
   |ok u k2=>
    rw[hg2] at R2
    obtain⟨N2,s3⟩:=R2
    refine jw (lo:=h.nx+1) e s T3 (fun c hc hd=>g' c hc (by omega)) (by omega) wp ⟨?_,s3.kp K3⟩
    have gH:∀ c o,h.nx+1≤c→h2.get c=some o→H.get c=some o:=fun c o hc e=>(g' c (by have:=za e;omega) (by omega)).trans ((K3.get c (za e)).trans e)
    refine zc.mk (P:=fun c=>h.nx≤c∧c < H.nx) (ts:=[t,u]) (es:=0) (ro:=false) (cs:=ndL x r l++ndL y r2 l2) _ ⟨by omega,by omega⟩ ((g' _ (by omega) (by omega)).trans w3) ?_
    unfold ArgsC
    refine⟨x,r,l,ndL y r2 l2,rfl,zc.mono (fun c o hc e=>?_) N1,?_⟩
    ·have hc1:h.nx+1≤c:=hc.1
     exact⟨⟨by omega,by have:=hc.2;omega⟩,gH c o hc1 ((F12.get c (za e) (by omega)).trans e)⟩
    unfold ArgsC
    refine⟨y,r2,l2,[],by rw[List.append_nil],zc.mono (fun c o hc e=>?_) N2,?_⟩
    ·have hc1:h1.nx+2≤c:=hc.1
     exact⟨⟨by omega,by have:=hc.2;omega⟩,gH c o (by omega) e⟩
    unfold ArgsC;rfl
end
section
variable {m:Int} {p b:Nat} {ts:List Tk} {E:Nat}
theorem zqB{f:PR}{d N:Nat}(hf:wS m p b ts E N 151 d f)(hpr:jr ts f)(hd:d≤41)(hN:3≤N)(n:Nat)(hn:N≤n)(B2 B3 lo:Nat)(hB:B2 < B3)(hlo:B2 < lo)(hpB:p < B2):
  ∀ (e i k:Nat) (t:Tr) (x:Hd) (r:OA) (l:Nat) (h:Heap),i+e=400→ts.length - k < e→lo≤h.nx→QSt m h p b ts E k d 0 0→zc h (fun c=>lo≤c∧c≠B3) x r l t→h.get B3=some (.row 72 (ndL x r l) 0 false)→h.wm≤p→
   ∃ hL R x' r' l',R≤e+1∧h.nx≤hL.nx∧(∀ c,c < B3→c≠p→(c≤B2∨False)→hL.get c=h.get c)∧hL.wm≤p∧Loops En (RD n) 30 18446744073709551616 (sub [1,1,0,1,0,0] (zp Tryz.f110)) [(0,pv p 0),(2,pv B2 0),(3,pv B3 0),(4,iv (i:Int))] h (.exit 0) [(2,pv B2 0),(3,pv B3 0)] hL R∧hL.get B3=some (.row 72 (ndL x' r' l') 0 false)∧
    match qv ts zaU f e t k with
    | .ok t' k'=>zc hL (fun c=>lo≤c∧c≠B3) x' r' l' t'∧QSt m hL p b ts E k' d 0 0
    | .err pos c=>c≠0∧∃ k' d',d≤d'∧d'≤41∧QSt m hL p b ts E k' d' c pos:=by
 intro e
 induction e with
 |zero=>intro i k t x r l h _ hk;omega
 |succ e ih=>
  intro i k t x r l h hi hk hnx s Nx g3 hw
  have hp:=s.lt
  have hT:=s.tT
  have h6:=s.p6
  have hB3:=za g3
  have K1:Kp h (al h 9 [.string ⟨#[43]⟩,.string ⟨#[45]⟩,.string ⟨#[38]⟩]):=(Kp.refl h).al _ _
  have s1:=s.kp K1
  have eo:=qZ (ops:=zaU) (q:=h.nx) s1 (zb _ _) (by decide) n (by omega)
  rw[if_pos rfl] at eo
  have hdec:decide ((i:Int) < 400)=true:=zw (b:=400) (by omega)
  simp only[qv]
  cases hs:sg ts zaU k with
  |none=>
   rw[hs] at eo
   obtain⟨H,eb,g,nx,wm⟩:=zjs h p B2 B3 i n x r l g3 hB3 (by omega) hdec eo
   exact⟨H,1,x,r,l,by omega,by omega,fun c hc _ _=>g c (by omega),by omega,.out eb,(g _ hB3).trans g3,Nx.mono fun c o hc e=>⟨hc,(g c (za e)).trans e⟩,s.keep (by omega) g⟩
  |some sn=>
   rw[hs] at eo
   have hk1:=qR ts hs
   have hne:=zi7 hs (by decide)
   have s2:QSt m (pt (al h 9 [.string ⟨#[43]⟩,.string ⟨#[45]⟩,.string ⟨#[38]⟩]) p 160 [tsV b ts,iv ((k:Int)+1),iv (E:Int),iv (d:Int),iv ((0:Nat):Int),iv ((0:Nat):Int)]) p b ts E (k+1) d 0 0:=s1.fr (Fr.put _ _ _ s1.lt) (zi _ _ _ s1.lt) (by omega)
   have F2:Fr h (pt (al h 9 [.string ⟨#[43]⟩,.string ⟨#[45]⟩,.string ⟨#[38]⟩]) p 160 [tsV b ts,iv ((k:Int)+1),iv (E:Int),iv (d:Int),iv ((0:Nat):Int),iv ((0:Nat):Int)]) p:=(K1.fr p).trans (Fr.put _ _ _ s1.lt)
   have nP:(pt (al h 9 [.string ⟨#[43]⟩,.string ⟨#[45]⟩,.string ⟨#[38]⟩]) p 160 [tsV b ts,iv ((k:Int)+1),iv (E:Int),iv (d:Int),iv ((0:Nat):Int),iv ((0:Nat):Int)]).nx=h.nx+1:=rfl
   obtain⟨v2,h2,e2,F3,_,wp2,y,r2,l2,rfl,R2⟩:=hf n _ (k+1) hn s2
   have l2':=F3.nx
   rw[nP] at l2'
   have F12:=F2.trans F3
   have gx2:=(F12.get B3 hB3 (by omega)).trans g3
   obtain⟨h3,e3,K3,n3,w3⟩:=zaH (h:=h2) (x:=x) (xr:=r) (xn:=l) (y:=y) (yr:=r2) (yn:=l2) sn n (by omega)
   have gx3:=(K3.get B3 (by omega)).trans gx2
   have ens:((⟨⟨sn⟩⟩:BA).data.toList==(⟨#[]⟩:BA).data.toList)=false:=by
    have:=zZ sn []
    rw[dF hne] at this
    exact this
   obtain⟨H,eb,g,nx,wm,_,w⟩:=zwf h h2 h3 p ts.length E k d B2 B3 i n sn (tsR b ts) x r l y r2 l2 (zg 5 sn) (some ⟨h2.nx+3,0,none⟩) 2 g3 hB3 (by omega) s.pp hp (by omega) (by omega) gx2 (by omega) gx3 (by omega) hdec eo ens e2 e3
   have gH:∀ c,c < B3→c≠p→(c≤B2∨False)→H.get c=h.get c:=fun c hc hcp _=>(g c (by omega) (by omega)).trans ((K3.get c (by omega)).trans (F12.get c (by omega) hcp))
   have wH:H.wm≤p:=by have:=K3.wm;omega
   have away:∀ {k' d' c' w':Nat},QSt m h2 p b ts E k' d' c' w'→QSt m H p b ts E k' d' c' w':=fun s3=>by
    have s4:=s3.kp K3
    refine⟨s4.gl.fr (p:=B3) ⟨by omega,g⟩ (by omega),s4.p6,(g p s4.lt (by omega)).trans s4.pp,s4.tk.imp id fun h1=>(g b (za h1) ?_).trans h1,s4.kT,s4.tT⟩
    rintro rfl
    rw[gx3] at h1
    cases h1
   simp only
   cases hg2:f (k+1) with
   |err pos c=>
    rw[hg2] at R2
    obtain⟨hc,k',d',hd1,hd2,s3⟩:=R2
    have sH:=away s3
    have eo2:=qZ (ops:=zaU) (q:=H.nx) (sH.kp ((Kp.refl H).al 9 [.string ⟨#[43]⟩,.string ⟨#[45]⟩,.string ⟨#[38]⟩])) (zb _ _) (by decide) n (by omega)
    rw[if_neg hc] at eo2
    have ei:(i:Int)+1=((i+1:Nat):Int):=rfl
    by_cases hi':i+1 < 400
    ·obtain⟨H2,eb2,g2,nx2,wm2⟩:=zjs H p B2 B3 (i+1) n (zg 5 sn) (some ⟨h2.nx+3,0,none⟩) 2 w (by omega) hi' (zw (b:=400) hi') eo2
     exact⟨H2,2,zg 5 sn,some ⟨h2.nx+3,0,none⟩,2,by omega,by omega,fun c hc hcp hd=>(g2 c (by omega)).trans (gH c hc hcp hd),by omega,.on eb (.out eb2),(g2 _ (by omega)).trans w,hc,k',d',hd1,hd2,sH.keep (by omega) g2⟩
    ·exact⟨H,2,zg 5 sn,some ⟨h2.nx+3,0,none⟩,2,by omega,by omega,gH,wH,.on eb (.out (zts H p B2 B3 (i+1) n (zE (b:=400) hi'))),w,hc,k',d',hd1,hd2,sH⟩
   |ok u k2=>
    rw[hg2] at R2
    obtain⟨N2,s3⟩:=R2
    have hk2:=hpr _ _ _ hg2
    have NH:zc H (fun c=>lo≤c∧c≠B3) (zg 5 sn) (some ⟨h2.nx+3,0,none⟩) 2 (vM sn t u):=by
     have N3:=zk8 (P:=fun c=>lo≤c∧c≠B3) (Q:=fun c=>lo≤c∧c≠B3) (s:=sn) K3 w3 (Nx.mono fun c o hc e=>⟨hc,(F12.get c (za e) (by omega)).trans e⟩) (zc.mono (fun c o hc e=>⟨⟨by have:h.nx+1≤c:=hc.1;omega,by have:h.nx+1≤c:=hc.1;omega⟩,e⟩) N2) (fun c hc _=>hc) ⟨by omega,by omega⟩
     exact N3.mono fun c o hc e=>⟨hc,(g c (za e) hc.2).trans e⟩
    obtain⟨hL,R,x',r',l',hR,nL,gL,wL,L,gB,RL⟩:=ih (i+1) k2 (vM sn t u) (zg 5 sn) (some ⟨h2.nx+3,0,none⟩) 2 H (by omega) (by omega) (by omega) (away s3) NH w wH
    exact⟨hL,R+1,x',r',l',by omega,by omega,fun c hc hcp hd=>(gL c hc hcp hd).trans (gH c hc hcp hd),wL,.on eb L,gB,RL⟩
theorem ztr{f:PR}{d N:Nat}(hf:wS m p b ts E N 151 d f)(hpr:jr ts f)(hd:d≤41)(hN:3≤N):wS m p b ts E (N+1) 110 d (qM ts zaU f):=by
 intro n h k hn s
 obtain⟨n,rfl⟩:=zs_ n
 have K0:Kp h.fh (al h.fh 72 z72):=(Kp.refl _).al 72 z72
 have hp:=s.lt
 have hT:=s.tT
 obtain⟨v1,h1,e1,F1,_,wp1,x,r,l,rfl,R1⟩:=hf n _ k (by omega) (s.fh.kp K0)
 have l1:h.nx+1≤h1.nx:=F1.nx
 have g1:h1.get h.nx=some (.row 72 z72 0 false):=(F1.get h.nx (nS _) (by omega)).trans (zb h.fh _)
 have T1:=(K0.fr p).trans F1
 have K1:Kp h1 (pt (al h1 72 z72) h1.nx 72 (ndL x r l)):=((Kp.refl h1).al _ _).pt _ _ (nL_ _) (nS _)
 have nP:(pt (al h1 72 z72) h1.nx 72 (ndL x r l)).nx=h1.nx+1:=rfl
 have gx:(pt (al h1 72 z72) h1.nx 72 (ndL x r l)).get h1.nx=some (.row 72 (ndL x r l) 0 false):=gP (nS _)
 unfold qM
 cases hu:f k with
 |err pos c=>
  rw[hu] at R1
  obtain⟨hc,k',d',hd1,hd2,s1⟩:=R1
  have eo:=qZ (ops:=zaU) (q:=h1.nx+1) ((s1.kp K1).kp ((Kp.refl _).al 9 [.string ⟨#[43]⟩,.string ⟨#[45]⟩,.string ⟨#[38]⟩])) (zb _ _) (by decide) n (by omega)
  rw[if_neg hc] at eo
  obtain⟨H2,eb2,g2,nx2,wm2⟩:=zjs (pt (al h1 72 z72) h1.nx 72 (ndL x r l)) p h.nx h1.nx 0 n x r l gx (by omega) (by omega) rfl eo
  have L:Loops En (RD n) 30 18446744073709551616 (sub [1,1,0,1,0,0] (zp Tryz.f110)) [(0,pv p 0),(2,pv h.nx 0),(3,pv h1.nx 0),(4,iv ((0:Nat):Int))] (pt (al h1 72 z72) h1.nx 72 (ndL x r l)) (.exit 0) [(2,pv h.nx 0),(3,pv h1.nx 0)] H2 1:=.out eb2
  have KL:Kp h1 H2:=⟨by omega,fun c hc=>(g2 c (by omega)).trans (K1.get c hc),nT wm2 K1.wm⟩
  obtain⟨H,e,g,nx,wm,_⟩:=zpI h h1 H2 p n x r l x r l g1 l1 ((g2 _ (by omega)).trans gx) ((KL.get _ (by omega)).trans g1) (by omega) e1 (L.fact2 (by omega) (by kernel_rfl))
  exact jw (lo:=h.nx+1) e s (T1.trans (KL.fr p)) (fun c hc hd=>g c hc (by omega)) (by omega) (by have:=KL.wm;omega) ⟨hc,k',d',hd1,hd2,s1.kp KL⟩
 |ok t k1=>
  rw[hu] at R1
  obtain⟨N1,s1⟩:=R1
  have N1':zc (pt (al h1 72 z72) h1.nx 72 (ndL x r l)) (fun c=>h.nx+1≤c∧c≠h1.nx) x r l t:=zc.mono (fun c o hc e=>by
   have hc1:h.nx+1≤c:=hc.1
   have hc2:c < h1.nx:=hc.2
   exact⟨⟨hc1,by omega⟩,(K1.get c hc2).trans e⟩) N1
  obtain⟨hL,R,x',r',l',hR,nL,gL,wL,L,gB,RL⟩:=zqB hf hpr hd hN n (by omega) h.nx h1.nx (h.nx+1) (by omega) (by omega) hp 400 0 k1 t x r l _ rfl (by omega) (by omega) (s1.kp K1) N1' gx (nT K1.wm wp1)
  have gLh:hL.get h.nx=some (.row 72 z72 0 false):=(gL h.nx (by omega) (by omega) (.inl (nL_ _))).trans ((K1.get _ (by omega)).trans g1)
  have FL:Fr h.fh hL p:=⟨by show h.nx≤hL.nx;omega,fun c hc hcp=>by
   have hc':c < h.nx:=hc
   exact(gL c (by omega) hcp (.inl (by omega))).trans ((K1.get c (by omega)).trans (T1.get c hc hcp))⟩
  obtain⟨H,e,g,nx,wm,_⟩:=zpI h h1 hL p n x r l x' r' l' g1 l1 gB gLh (by omega) e1 (L.fact2 (by omega) (by kernel_rfl))
  simp only
  refine jw (lo:=h.nx+1) e s FL (fun c hc hd=>g c hc (by omega)) (by omega) (by omega) ?_
  unfold zbK
  split at RL
  next t' k' e4=>
   try rw[e4]
   refine⟨RL.1.mono fun c o hc e=>?_,RL.2⟩
   exact⟨⟨by omega,by have:=za e;omega⟩,(g c (za e) (by omega)).trans e⟩
  next pos c e4=>(try rw[e4]);exact RL
theorem zqx{f:PR}{d N:Nat}(hf:wS m p b ts E N 183 d f)(hpr:jr ts f)(hd:d≤41)(hN:3≤N)(n:Nat)(hn:N≤n)(B2 B3 lo:Nat)(hB:B2 < B3)(hlo:B2 < lo)(hpB:p < B2):
  ∀ (e i k:Nat) (t:Tr) (x:Hd) (r:OA) (l:Nat) (h:Heap),i+e=400→ts.length - k < e→lo≤h.nx→QSt m h p b ts E k d 0 0→zc h (fun c=>lo≤c∧c≠B3) x r l t→h.get B3=some (.row 72 (ndL x r l) 0 false)→h.wm≤p→
   ∃ hL R x' r' l',R≤e+1∧h.nx≤hL.nx∧(∀ c,c < B3→c≠p→(c≤B2∨False)→hL.get c=h.get c)∧hL.wm≤p∧Loops En (RD n) 30 18446744073709551616 (sub [1,1,0,1,0,0] (zp Tryz.f151)) [(0,pv p 0),(2,pv B2 0),(3,pv B3 0),(4,iv (i:Int))] h (.exit 0) [(2,pv B2 0),(3,pv B3 0)] hL R∧hL.get B3=some (.row 72 (ndL x' r' l') 0 false)∧
    match qv ts yb f e t k with
    | .ok t' k'=>zc hL (fun c=>lo≤c∧c≠B3) x' r' l' t'∧QSt m hL p b ts E k' d 0 0
    | .err pos c=>c≠0∧∃ k' d',d≤d'∧d'≤41∧QSt m hL p b ts E k' d' c pos:=by
 intro e
 induction e with
 |zero=>intro i k t x r l h _ hk;omega
 |succ e ih=>
  intro i k t x r l h hi hk hnx s Nx g3 hw
  have hp:=s.lt
  have hT:=s.tT
  have h6:=s.p6
  have hB3:=za g3
  have K1:Kp h (al h 9 [.string ⟨#[42]⟩,.string ⟨#[47]⟩,.string ⟨#[37]⟩]):=(Kp.refl h).al _ _
  have s1:=s.kp K1
  have eo:=qZ (ops:=yb) (q:=h.nx) s1 (zb _ _) (by decide) n (by omega)
  rw[if_pos rfl] at eo
  have hdec:decide ((i:Int) < 400)=true:=zw (b:=400) (by omega)
  simp only[qv]
  cases hs:sg ts yb k with
  |none=>
   rw[hs] at eo
   obtain⟨H,eb,g,nx,wm⟩:=zjr h p B2 B3 i n x r l g3 hB3 (by omega) hdec eo
   exact⟨H,1,x,r,l,by omega,by omega,fun c hc _ _=>g c (by omega),by omega,.out eb,(g _ hB3).trans g3,Nx.mono fun c o hc e=>⟨hc,(g c (za e)).trans e⟩,s.keep (by omega) g⟩
  |some sn=>
   rw[hs] at eo
   have hk1:=qR ts hs
   have hne:=zi7 hs (by decide)
   have s2:QSt m (pt (al h 9 [.string ⟨#[42]⟩,.string ⟨#[47]⟩,.string ⟨#[37]⟩]) p 160 [tsV b ts,iv ((k:Int)+1),iv (E:Int),iv (d:Int),iv ((0:Nat):Int),iv ((0:Nat):Int)]) p b ts E (k+1) d 0 0:=s1.fr (Fr.put _ _ _ s1.lt) (zi _ _ _ s1.lt) (by omega)
   have F2:Fr h (pt (al h 9 [.string ⟨#[42]⟩,.string ⟨#[47]⟩,.string ⟨#[37]⟩]) p 160 [tsV b ts,iv ((k:Int)+1),iv (E:Int),iv (d:Int),iv ((0:Nat):Int),iv ((0:Nat):Int)]) p:=(K1.fr p).trans (Fr.put _ _ _ s1.lt)
   have nP:(pt (al h 9 [.string ⟨#[42]⟩,.string ⟨#[47]⟩,.string ⟨#[37]⟩]) p 160 [tsV b ts,iv ((k:Int)+1),iv (E:Int),iv (d:Int),iv ((0:Nat):Int),iv ((0:Nat):Int)]).nx=h.nx+1:=rfl
   obtain⟨v2,h2,e2,F3,_,wp2,y,r2,l2,rfl,R2⟩:=hf n _ (k+1) hn s2
   have l2':=F3.nx
   rw[nP] at l2'
   have F12:=F2.trans F3
   have gx2:=(F12.get B3 hB3 (by omega)).trans g3
   obtain⟨h3,e3,K3,n3,w3⟩:=zaH (h:=h2) (x:=x) (xr:=r) (xn:=l) (y:=y) (yr:=r2) (yn:=l2) sn n (by omega)
   have gx3:=(K3.get B3 (by omega)).trans gx2
   have ens:((⟨⟨sn⟩⟩:BA).data.toList==(⟨#[]⟩:BA).data.toList)=false:=by
    have:=zZ sn []
    rw[dF hne] at this
    exact this
   obtain⟨H,eb,g,nx,wm,_,w⟩:=zwa h h2 h3 p ts.length E k d B2 B3 i n sn (tsR b ts) x r l y r2 l2 (zg 5 sn) (some ⟨h2.nx+3,0,none⟩) 2 g3 hB3 (by omega) s.pp hp (by omega) (by omega) gx2 (by omega) gx3 (by omega) hdec eo ens e2 e3
   have gH:∀ c,c < B3→c≠p→(c≤B2∨False)→H.get c=h.get c:=fun c hc hcp _=>(g c (by omega) (by omega)).trans ((K3.get c (by omega)).trans (F12.get c (by omega) hcp))
   have wH:H.wm≤p:=by have:=K3.wm;omega
   have away:∀ {k' d' c' w':Nat},QSt m h2 p b ts E k' d' c' w'→QSt m H p b ts E k' d' c' w':=fun s3=>by
    have s4:=s3.kp K3
    refine⟨s4.gl.fr (p:=B3) ⟨by omega,g⟩ (by omega),s4.p6,(g p s4.lt (by omega)).trans s4.pp,s4.tk.imp id fun h1=>(g b (za h1) ?_).trans h1,s4.kT,s4.tT⟩
    rintro rfl
    rw[gx3] at h1
    cases h1
   simp only
   cases hg2:f (k+1) with
   |err pos c=>
    rw[hg2] at R2
    obtain⟨hc,k',d',hd1,hd2,s3⟩:=R2
    have sH:=away s3
    have eo2:=qZ (ops:=yb) (q:=H.nx) (sH.kp ((Kp.refl H).al 9 [.string ⟨#[42]⟩,.string ⟨#[47]⟩,.string ⟨#[37]⟩])) (zb _ _) (by decide) n (by omega)
    rw[if_neg hc] at eo2
    have ei:(i:Int)+1=((i+1:Nat):Int):=rfl
    by_cases hi':i+1 < 400
    ·obtain⟨H2,eb2,g2,nx2,wm2⟩:=zjr H p B2 B3 (i+1) n (zg 5 sn) (some ⟨h2.nx+3,0,none⟩) 2 w (by omega) hi' (zw (b:=400) hi') eo2
     exact⟨H2,2,zg 5 sn,some ⟨h2.nx+3,0,none⟩,2,by omega,by omega,fun c hc hcp hd=>(g2 c (by omega)).trans (gH c hc hcp hd),by omega,.on eb (.out eb2),(g2 _ (by omega)).trans w,hc,k',d',hd1,hd2,sH.keep (by omega) g2⟩
    ·exact⟨H,2,zg 5 sn,some ⟨h2.nx+3,0,none⟩,2,by omega,by omega,gH,wH,.on eb (.out (ztk H p B2 B3 (i+1) n (zE (b:=400) hi'))),w,hc,k',d',hd1,hd2,sH⟩
   |ok u k2=>
    rw[hg2] at R2
    obtain⟨N2,s3⟩:=R2
    have hk2:=hpr _ _ _ hg2
    have NH:zc H (fun c=>lo≤c∧c≠B3) (zg 5 sn) (some ⟨h2.nx+3,0,none⟩) 2 (vM sn t u):=by
     have N3:=zk8 (P:=fun c=>lo≤c∧c≠B3) (Q:=fun c=>lo≤c∧c≠B3) (s:=sn) K3 w3 (Nx.mono fun c o hc e=>⟨hc,(F12.get c (za e) (by omega)).trans e⟩) (zc.mono (fun c o hc e=>⟨⟨by have:h.nx+1≤c:=hc.1;omega,by have:h.nx+1≤c:=hc.1;omega⟩,e⟩) N2) (fun c hc _=>hc) ⟨by omega,by omega⟩
     exact N3.mono fun c o hc e=>⟨hc,(g c (za e) hc.2).trans e⟩
    obtain⟨hL,R,x',r',l',hR,nL,gL,wL,L,gB,RL⟩:=ih (i+1) k2 (vM sn t u) (zg 5 sn) (some ⟨h2.nx+3,0,none⟩) 2 H (by omega) (by omega) (by omega) (away s3) NH w wH
    exact⟨hL,R+1,x',r',l',by omega,by omega,fun c hc hcp hd=>(gL c hc hcp hd).trans (gH c hc hcp hd),wL,.on eb L,gB,RL⟩
theorem ztj{f:PR}{d N:Nat}(hf:wS m p b ts E N 183 d f)(hpr:jr ts f)(hd:d≤41)(hN:3≤N):wS m p b ts E (N+1) 151 d (qM ts yb f):=by
 intro n h k hn s
 obtain⟨n,rfl⟩:=zs_ n
 have K0:Kp h.fh (al h.fh 72 z72):=(Kp.refl _).al 72 z72
 have hp:=s.lt
 have hT:=s.tT
 obtain⟨v1,h1,e1,F1,_,wp1,x,r,l,rfl,R1⟩:=hf n _ k (by omega) (s.fh.kp K0)
 have l1:h.nx+1≤h1.nx:=F1.nx
 have g1:h1.get h.nx=some (.row 72 z72 0 false):=(F1.get h.nx (nS _) (by omega)).trans (zb h.fh _)
 have T1:=(K0.fr p).trans F1
 have K1:Kp h1 (pt (al h1 72 z72) h1.nx 72 (ndL x r l)):=((Kp.refl h1).al _ _).pt _ _ (nL_ _) (nS _)
 have nP:(pt (al h1 72 z72) h1.nx 72 (ndL x r l)).nx=h1.nx+1:=rfl
 have gx:(pt (al h1 72 z72) h1.nx 72 (ndL x r l)).get h1.nx=some (.row 72 (ndL x r l) 0 false):=gP (nS _)
 unfold qM
 cases hu:f k with
 |err pos c=>
  rw[hu] at R1
  obtain⟨hc,k',d',hd1,hd2,s1⟩:=R1
  have eo:=qZ (ops:=yb) (q:=h1.nx+1) ((s1.kp K1).kp ((Kp.refl _).al 9 [.string ⟨#[42]⟩,.string ⟨#[47]⟩,.string ⟨#[37]⟩])) (zb _ _) (by decide) n (by omega)
  rw[if_neg hc] at eo
  obtain⟨H2,eb2,g2,nx2,wm2⟩:=zjr (pt (al h1 72 z72) h1.nx 72 (ndL x r l)) p h.nx h1.nx 0 n x r l gx (by omega) (by omega) rfl eo
  have L:Loops En (RD n) 30 18446744073709551616 (sub [1,1,0,1,0,0] (zp Tryz.f151)) [(0,pv p 0),(2,pv h.nx 0),(3,pv h1.nx 0),(4,iv ((0:Nat):Int))] (pt (al h1 72 z72) h1.nx 72 (ndL x r l)) (.exit 0) [(2,pv h.nx 0),(3,pv h1.nx 0)] H2 1:=.out eb2
  have KL:Kp h1 H2:=⟨by omega,fun c hc=>(g2 c (by omega)).trans (K1.get c hc),nT wm2 K1.wm⟩
  obtain⟨H,e,g,nx,wm,_⟩:=zpG h h1 H2 p n x r l x r l g1 l1 ((g2 _ (by omega)).trans gx) ((KL.get _ (by omega)).trans g1) (by omega) e1 (L.fact2 (by omega) (by kernel_rfl))
  exact jw (lo:=h.nx+1) e s (T1.trans (KL.fr p)) (fun c hc hd=>g c hc (by omega)) (by omega) (by have:=KL.wm;omega) ⟨hc,k',d',hd1,hd2,s1.kp KL⟩
 |ok t k1=>
  rw[hu] at R1
  obtain⟨N1,s1⟩:=R1
  have N1':zc (pt (al h1 72 z72) h1.nx 72 (ndL x r l)) (fun c=>h.nx+1≤c∧c≠h1.nx) x r l t:=zc.mono (fun c o hc e=>by
   have hc1:h.nx+1≤c:=hc.1
   have hc2:c < h1.nx:=hc.2
   exact⟨⟨hc1,by omega⟩,(K1.get c hc2).trans e⟩) N1
  obtain⟨hL,R,x',r',l',hR,nL,gL,wL,L,gB,RL⟩:=zqx hf hpr hd hN n (by omega) h.nx h1.nx (h.nx+1) (by omega) (by omega) hp 400 0 k1 t x r l _ rfl (by omega) (by omega) (s1.kp K1) N1' gx (nT K1.wm wp1)
  have gLh:hL.get h.nx=some (.row 72 z72 0 false):=(gL h.nx (by omega) (by omega) (.inl (nL_ _))).trans ((K1.get _ (by omega)).trans g1)
  have FL:Fr h.fh hL p:=⟨by show h.nx≤hL.nx;omega,fun c hc hcp=>by
   have hc':c < h.nx:=hc
   exact(gL c (by omega) hcp (.inl (by omega))).trans ((K1.get c (by omega)).trans (T1.get c hc hcp))⟩
  obtain⟨H,e,g,nx,wm,_⟩:=zpG h h1 hL p n x r l x' r' l' g1 l1 gB gLh (by omega) e1 (L.fact2 (by omega) (by kernel_rfl))
  simp only
  refine jw (lo:=h.nx+1) e s FL (fun c hc hd=>g c hc (by omega)) (by omega) (by omega) ?_
  unfold zbK
  split at RL
  next t' k' e4=>
   try rw[e4]
   refine⟨RL.1.mono fun c o hc e=>?_,RL.2⟩
   exact⟨⟨by omega,by have:=za e;omega⟩,(g c (za e) (by omega)).trans e⟩
  next pos c e4=>(try rw[e4]);exact RL
end
noncomputable section
abbrev zbP:Vs:=[iv 0,iv 0,.string ⟨#[]⟩,iv 0]
abbrev zbQ(h:Heap)(x:Tk):Heap:=pt (pt (zd 1 (al h.fh 72 z72)) (h.nx+1) 199 zbP) (h.nx+1) 199 [iv (x.k:Int),iv (x.n:Int),.string ⟨⟨x.t⟩⟩,iv (x.at_:Int)]
abbrev zcY(x:Tk):Value:=.agg #[iv (x.k:Int),iv (x.n:Int),.string ⟨⟨x.t⟩⟩,iv (x.at_:Int)]
abbrev zcX(b T k E d:Nat):AObj:=.row 160 [sv b 0 T T,iv (k:Int),iv E,iv (d:Int),iv 0,iv 0] 0 false
abbrev ziD(b T k E d:Nat):Vs:=[sv b 0 T T,iv ((k:Int)+1),iv E,iv (d:Int),iv 0,iv 0]
abbrev zse(x:Tk):Value:=.agg #[iv 1,iv 2,iv (x.n:Int),.string ⟨#[]⟩,iv 0,iv 0,iv 0,iv 0,.string ⟨#[]⟩,.slice none 0 0]
abbrev zsd(x:Tk):Value:=.agg #[iv 1,iv 3,iv 0,.string ⟨⟨x.t⟩⟩,iv 0,iv 0,iv 0,iv 0,.string ⟨#[]⟩,.slice none 0 0]
abbrev zcW(ts:List Tk):AObj:=.row 199 (tkC ts) 4 false
abbrev ziC(k:Nat):Value:=iv ((k:Int)+1)
variable (h h1:Heap) (p b k T E d:Nat) (ts:List Tk) (x:Tk) (n:Nat) (y:Hd) (yr:OA) (yn:Nat)
theorem ztg(r:OA)(hp:h.get p=some (.row 160 [.slice r T T,iv (k:Int),iv E,iv (d:Int),iv 0,iv 0] 0 false))(_hl:p < h.nx)(g1_:h1.get h.nx=some (.row 72 z72 0 false))(l1_:h.nx < h1.nx)(a0:decide ((k:Int)≥T)=true)(a1:RD n 79 [pv p 0] (al h.fh 72 z72)=some (.tuple #[],h1)):∃ H,Fn n 225 [pv p 0] h (zj) H∧tl1 h1 h1.wm h.nx h1.nx H:=
 exV (kI (ko hp)) [aS 72 z72,.l 0 3 4,bF,.l 0 3 1,.l 0 155 0,yT a0,yN (h.nx+1),.q (.l 0 3 4),.q (.l 0 3 1),.q (.l 0 155 0),yQ (iv T),yC a1 (kI (ko g1_)),.w 0 72 0 (zj),.r 0 72 10] []
theorem ztf(hp:h.get p=some (zcX b T k E d))(hb:h.get b=some (zcW ts))(hx:ts[k]? =some x)(_h1:k < T)(_h2:T < 1000)(_hl:p < h.nx)(_hb:b < h.nx)(_hpb:b≠p)(a0:decide ((k:Int)≥T)=false)(a1:(((x.k:Int):Int)==1)=true):∃ H,Fn n 225 [pv p 0] h (zse x) H∧tw1 h h.fh.wm p (h.nx+2) H (H.get p=some (.row 160 (ziD b T k E d) 0 false)):=
 exV (kJ (ko hp) (kx hb hx)) [aS 72 z72,.l 0 3 4,bF,.l 0 3 1,.l 0 155 0,yF a0,yN (h.nx+1),.q (.l 0 3 4),.q (.l 0 3 1),.q (.l 0 155 0),yQ (iv T),.v 1,.l 0 155 0,.l 0 3 1,iA 155 199 4 b T k,.m 1 199 0,bS 0 199 zbP,.w 3 199 0 (zcY x),yN (h.nx+2),.j 1,.q (.l 0 155 0),.q (.l 0 3 1),.q (.m 1 199 0),.j 3,.l 3 3 0,yT a1,.l 0 3 1,yW ((k:Int)+1),.w 0 3 1 (ziC k),.l 3 2 1,.w 2 72 0 (zse x),.r 2 72 10] [0]
theorem zte(hp:h.get p=some (zcX b T k E d))(hb:h.get b=some (zcW ts))(hx:ts[k]? =some x)(_h1:k < T)(_h2:T < 1000)(_hl:p < h.nx)(_hb:b < h.nx)(_hpb:b≠p)(a0:decide ((k:Int)≥T)=false)(a1:(((x.k:Int):Int)==1)=false)(a2:(((x.k:Int):Int)==2)=true)(a3:decide (((⟨⟨x.t⟩⟩:BA).data.toList.length:Int)>200)=false):∃ H,Fn n 225 [pv p 0] h (zsd x) H∧tw1 h h.fh.wm p (h.nx+2) H (H.get p=some (.row 160 (ziD b T k E d) 0 false)):=
 exV (kJ (ko hp) (kx hb hx)) [aS 72 z72,.l 0 3 4,bF,.l 0 3 1,.l 0 155 0,yF a0,yN (h.nx+1),.q (.l 0 3 4),.q (.l 0 3 1),.q (.l 0 155 0),yQ (iv T),.v 1,.l 0 155 0,.l 0 3 1,iA 155 199 4 b T k,.m 1 199 0,bS 0 199 zbP,.w 3 199 0 (zcY x),yN (h.nx+2),.j 1,.q (.l 0 155 0),.q (.l 0 3 1),.q (.m 1 199 0),.j 3,.l 3 3 0,yF a1,yT a2,.l 3 9 2,yF a3,.l 0 3 1,yW ((k:Int)+1),.w 0 3 1 (ziC k),.l 3 9 2,.w 2 72 0 (zsd x),.r 2 72 10] [0]
theorem zqv(hp:h.get p=some (zcX b T k E d))(hb:h.get b=some (zcW ts))(hx:ts[k]? =some x)(_h1:k < T)(_h2:T < 1000)(_hl:p < h.nx)(_hb:b < h.nx)(_hpb:b≠p)(g1_:h1.get h.nx=some (.row 72 z72 0 false))(l1_:h.nx < h1.nx)(a0:decide ((k:Int)≥T)=false)(a1:(((x.k:Int):Int)==1)=false)(a2:(((x.k:Int):Int)==2)=true)(a3:decide (((⟨⟨x.t⟩⟩:BA).data.toList.length:Int)>200)=true)(a4:RD n 79 [pv p 0] (zbQ h x)=some (.tuple #[],h1)):∃ H,Fn n 225 [pv p 0] h (zj) H∧tl1 h1 h1.wm h.nx h1.nx H:=
 exV (kJ (ko hp) (kx hb hx)) [aS 72 z72,.l 0 3 4,bF,.l 0 3 1,.l 0 155 0,yF a0,yN (h.nx+1),.q (.l 0 3 4),.q (.l 0 3 1),.q (.l 0 155 0),yQ (iv T),.v 1,.l 0 155 0,.l 0 3 1,iA 155 199 4 b T k,.m 1 199 0,bS 0 199 zbP,.w 3 199 0 (zcY x),yN (h.nx+2),.j 1,.q (.l 0 155 0),.q (.l 0 3 1),.q (.m 1 199 0),.j 3,.l 3 3 0,yF a1,yT a2,.l 3 9 2,yT a3,yC a4 (kI (ko g1_)),.w 0 72 0 (zj),.r 0 72 10] []
theorem zv3(hp:h.get p=some (zcX b T k E d))(hb:h.get b=some (zcW ts))(hx:ts[k]? =some x)(_h1:k < T)(_h2:T < 1000)(_hl:p < h.nx)(_hb:b < h.nx)(_hpb:b≠p)(g1_:h1.get h.nx=some (.row 72 z72 0 false))(l1_:h.nx < h1.nx)(a0:decide ((k:Int)≥T)=false)(a1:(((x.k:Int):Int)==1)=false)(a2:(((x.k:Int):Int)==2)=false)(a3:(((x.k:Int):Int)==3)=true)(a4:RD n 232 [pv p 0,.agg #[iv (x.k:Int),iv (x.n:Int),.string ⟨⟨x.t⟩⟩,iv (x.at_:Int)]] (zbQ h x)=some (ndV y yr yn,h1)):∃ H,Fn n 225 [pv p 0] h (ndV y yr yn) H∧tl1 h1 h1.wm h.nx h1.nx H:=
 exV (kJ (ko hp) (kx hb hx)) [aS 72 z72,.l 0 3 4,bF,.l 0 3 1,.l 0 155 0,yF a0,yN (h.nx+1),.q (.l 0 3 4),.q (.l 0 3 1),.q (.l 0 155 0),yQ (iv T),.v 1,.l 0 155 0,.l 0 3 1,iA 155 199 4 b T k,.m 1 199 0,bS 0 199 zbP,.w 3 199 0 (zcY x),yN (h.nx+2),.j 1,.q (.l 0 155 0),.q (.l 0 3 1),.q (.m 1 199 0),.j 3,.l 3 3 0,yF a1,yF a2,yT a3,.g 3 199 0 4,yC a4 (kI (ko g1_)),.w 0 72 0 (ndV y yr yn),.r 0 72 10] []
theorem zv2(hp:h.get p=some (zcX b T k E d))(hb:h.get b=some (zcW ts))(hx:ts[k]? =some x)(_h1:k < T)(_h2:T < 1000)(_hl:p < h.nx)(_hb:b < h.nx)(_hpb:b≠p)(g1_:h1.get h.nx=some (.row 72 z72 0 false))(l1_:h.nx < h1.nx)(a0:decide ((k:Int)≥T)=false)(a1:(((x.k:Int):Int)==1)=false)(a2:(((x.k:Int):Int)==2)=false)(a3:(((x.k:Int):Int)==3)=false)(a4:Pu n 152 [pv p 0,.string ⟨#[40]⟩] (.bool false) (zbQ h x))(a5:RD n 79 [pv p 0] (zbQ h x)=some (.tuple #[],h1)):∃ H,Fn n 225 [pv p 0] h (zj) H∧tl1 h1 h1.wm h.nx h1.nx H:=
 exV (kJ (ko hp) (kx hb hx)) [aS 72 z72,.l 0 3 4,bF,.l 0 3 1,.l 0 155 0,yF a0,yN (h.nx+1),.q (.l 0 3 4),.q (.l 0 3 1),.q (.l 0 155 0),yQ (iv T),.v 1,.l 0 155 0,.l 0 3 1,iA 155 199 4 b T k,.m 1 199 0,bS 0 199 zbP,.w 3 199 0 (zcY x),yN (h.nx+2),.j 1,.q (.l 0 155 0),.q (.l 0 3 1),.q (.m 1 199 0),.j 3,.l 3 3 0,yF a1,yF a2,yF a3,yP a4,yC a5 (kI (ko g1_)),.w 0 72 0 (zj),.r 0 72 10] []
theorem zv5(hp:h.get p=some (zcX b T k E d))(hb:h.get b=some (zcW ts))(hx:ts[k]? =some x)(_h1:k < T)(_h2:T < 1000)(_hl:p < h.nx)(_hb:b < h.nx)(_hpb:b≠p)(g1_:h1.get h.nx=some (.row 72 z72 0 false))(l1_:h.nx < h1.nx)(a0:decide ((k:Int)≥T)=false)(a1:(((x.k:Int):Int)==1)=false)(a2:(((x.k:Int):Int)==2)=false)(a3:(((x.k:Int):Int)==3)=false)(a4:Pu n 152 [pv p 0,.string ⟨#[40]⟩] (.bool true) (zbQ h x))(a5:RD n 208 [pv p 0] (pt (zbQ h x) p 160 (ziD b T k E d))=some (.bool false,h1)):∃ H,Fn n 225 [pv p 0] h (zj) H∧tl1 h1 h1.wm h.nx h1.nx H:=
 exV (kJ (ko hp) (kx hb hx)) [aS 72 z72,.l 0 3 4,bF,.l 0 3 1,.l 0 155 0,yF a0,yN (h.nx+1),.q (.l 0 3 4),.q (.l 0 3 1),.q (.l 0 155 0),yQ (iv T),.v 1,.l 0 155 0,.l 0 3 1,iA 155 199 4 b T k,.m 1 199 0,bS 0 199 zbP,.w 3 199 0 (zcY x),yN (h.nx+2),.j 1,.q (.l 0 155 0),.q (.l 0 3 1),.q (.m 1 199 0),.j 3,.l 3 3 0,yF a1,yF a2,yF a3,yP a4,.l 0 3 1,yW ((k:Int)+1),.w 0 3 1 (ziC k),yC a5 (kI (ko g1_)),.w 0 72 0 (zj),.r 0 72 10] []
theorem zv4(h2 h3:Heap)(p b k T E d k3 d3 c3 w3:Nat)(ts:List Tk)(x:Tk)(n:Nat)(y:Hd)(yr:OA)(yn:Nat)(hp:h.get p=some (zcX b T k E d))(hb:h.get b=some (zcW ts))(hx:ts[k]? =some x)(_h1:k < T)(_h2:T < 1000)(_hl:p < h.nx)(_hb:b < h.nx)(_hpb:b≠p)(gh2_p:h2.get p=some (.row 160 [sv b 0 T T,iv (k3:Int),iv E,iv (d3:Int),iv (c3:Int),iv (w3:Int)] 0 false))(_lph2:p < h2.nx)(_hd3:d3 < 1000)(g3_:h3.get h.nx=some (.row 72 z72 0 false))(l3_:h.nx < h3.nx)(g32_:h3.get h2.nx=some (.row 72 (ndL y yr yn) 0 false))(a0:decide ((k:Int)≥T)=false)(a1:(((x.k:Int):Int)==1)=false)(a2:(((x.k:Int):Int)==2)=false)(a3:(((x.k:Int):Int)==3)=false)(a4:Pu n 152 [pv p 0,.string ⟨#[40]⟩] (.bool true) (zbQ h x))(a5:RD n 208 [pv p 0] (pt (zbQ h x) p 160 (ziD b T k E d))=some (.bool true,h1))(a6:RD n 78 [pv p 0] h1=some (ndV y yr yn,h2))(a7:RD n 233 [pv p 0] (pt (pt (al h2 72 z72) h2.nx 72 (ndL y yr yn)) p 160 [sv b 0 T T,iv (k3:Int),iv E,iv ((d3:Int) - 1),iv (c3:Int),iv (w3:Int)])=some (.tuple #[],h3)):∃ H,Fn n 225 [pv p 0] h (ndV y yr yn) H∧tl1 h3 h3.wm h.nx h3.nx H:=
 exV (kJ (ko hp) (kx hb hx)) [aS 72 z72,.l 0 3 4,bF,.l 0 3 1,.l 0 155 0,yF a0,yN (h.nx+1),.q (.l 0 3 4),.q (.l 0 3 1),.q (.l 0 155 0),yQ (iv T),.v 1,.l 0 155 0,.l 0 3 1,iA 155 199 4 b T k,.m 1 199 0,bS 0 199 zbP,.w 3 199 0 (zcY x),yN (h.nx+2),.j 1,.q (.l 0 155 0),.q (.l 0 3 1),.q (.m 1 199 0),.j 3,.l 3 3 0,yF a1,yF a2,yF a3,yP a4,.l 0 3 1,yW ((k:Int)+1),.w 0 3 1 (ziC k),yC a5 (kZ h1),yC a6 (kI (ko gh2_p)),aS 72 z72,.w 1 72 0 (ndV y yr yn),.l 0 3 3,yW ((d3:Int) - 1),.w 0 3 3 (iv ((d3:Int) - 1)),yC a7 (kI (ko g32_)),.g 0 72 0 10,.s (kI (ko g3_)),.w 0 72 0 (ndV y yr yn),.r 0 72 10] []
end
noncomputable section
abbrev vS(x:Tk):Vs:=[iv (x.k:Int),iv (x.n:Int),.string ⟨⟨x.t⟩⟩,iv (x.at_:Int)]
abbrev qt(h:Heap)(x:Tk):Heap:=al (al h.fh 199 (vS x)) 72 z72
abbrev zak(p:Nat)(x:Tk):Vs:=[pv p 0,.agg #[iv (x.k:Int),iv (x.n:Int),.string ⟨⟨x.t⟩⟩,iv (x.at_:Int)]]
abbrev zf5(b T k E d:Nat):Vs:=[sv b 0 T T,iv ((k:Int)+1),iv E,iv (d:Int),iv 0,iv 0]
abbrev uA:Vs:=[iv 0,iv 0,.bool false]
abbrev zxZ(b T k E d:Nat):Vs:=[sv b 0 T T,iv (((k:Int)+1)+1),iv E,iv (d:Int),iv 0,iv 0]
abbrev zem(r:OA)(T k E d:Nat):Vs:=[.slice r T T,iv ((k:Int)+1),iv E,iv (d:Int),iv 0,iv 0]
abbrev yO(a c:Int):Value:=.agg #[iv a,iv c,.bool true]
abbrev ziB(b T k E d:Nat):AObj:=.row 160 [sv b 0 T T,iv (k:Int),iv E,iv (d:Int),iv 0,iv 0] 0 false
abbrev ziA(r:OA)(T k E d:Nat):AObj:=.row 160 [.slice r T T,iv (k:Int),iv E,iv (d:Int),iv 0,iv 0] 0 false
abbrev zay(k:Nat):Value:=iv ((k:Int)+1)
abbrev zpo:Value:=.agg #[iv 1,iv 1,iv 1,.string ⟨#[]⟩,iv 0,iv 0,iv 0,iv 0,.string ⟨#[]⟩,.slice none 0 0]
abbrev zpn:Value:=.agg #[iv 1,iv 1,iv 0,.string ⟨#[]⟩,iv 0,iv 0,iv 0,iv 0,.string ⟨#[]⟩,.slice none 0 0]
abbrev zax(h:Heap)(x:Tk)(a c:Int):Heap:=pt (al (qt h x) 78 uA) (h.nx+2) 78 [iv a,iv c,.bool true]
abbrev zcr(p:Nat):Vs:=[pv p 0,.string ⟨#[58]⟩]
abbrev zdx(k:Nat):Value:=iv (((k:Int)+1)+1)
abbrev zpm(a c:Int):Value:=.agg #[iv 2,iv 0,iv 0,.string ⟨#[]⟩,iv a,iv c,iv 0,iv 0,.string ⟨#[]⟩,.slice none 0 0]
abbrev zpl(r0 c0 r1 c1:Int):Value:=.agg #[iv 3,iv 0,iv 0,.string ⟨#[]⟩,iv r0,iv c0,iv r1,iv c1,.string ⟨#[]⟩,.slice none 0 0]
abbrev zab(h:Heap)(x:Tk)(a c:Int)(p b T k E d:Nat):Heap:=pt (pt (zax h x a c) p 160 (zf5 b T k E d)) p 160 (zxZ b T k E d)
variable (h h1:Heap) (p b k T E d n:Nat) (ts:List Tk) (r:OA) (x y:Tk) (a c u w:Int)
theorem zzC(y:Hd)(yr:OA)(yn:Nat)(g11_:h1.get (h.nx+1)=some (.row 72 z72 0 false))(_lhnx1h1:h.nx+1 < h1.nx)(a0:Pu n 240 [pv p 0] (.bool true) (qt h x))(a1:RD n 241 (zak p x) (qt h x)=some (ndV y yr yn,h1)):∃ H,Fn n 232 (zak p x) h (ndV y yr yn) H∧tl1 h1 h1.wm (h.nx+1) h1.nx H:=
 exV (kZ h) [aS 199 (vS x),aS 72 z72,yP a0,.g 0 199 0 4,yC a1 (kI (ko g11_)),.w 0 72 0 (ndV y yr yn),.r 0 72 10] []
theorem zzx(hp:h.get p=some (ziA r T k E d))(_hl:p < h.nx)(_hk:k < 1000)(a0:Pu n 240 [pv p 0] (.bool false) (qt h x))(a1:bqS ⟨⟨x.t⟩⟩ ⟨#[84,82,85,69]⟩=true)(a2:bqS ⟨⟨x.t⟩⟩ ⟨#[84,82,85,69]⟩=true):∃ H,Fn n 232 (zak p x) h zpo H∧tw1 h h.fh.wm p (h.nx+3) H (H.get p=some (.row 160 (zem r T k E d) 0 false)):=
 exV (kI (ko hp)) [aS 199 (vS x),aS 72 z72,yP a0,.l 1 9 2,yT a1,.l 0 3 1,yW ((k:Int)+1),.w 0 3 1 (zay k),aS 27 [iv 0,iv 0,.string ⟨#[]⟩],.w 3 27 0 (.agg #[iv 1,iv 0,.string ⟨#[]⟩]),.l 1 9 2,yT a2,.w 3 2 1 (iv 1),.g 3 27 0 3,.w 2 72 0 zpo,.r 2 72 10] [0]
theorem zzA(hp:h.get p=some (ziA r T k E d))(_hl:p < h.nx)(_hk:k < 1000)(a0:Pu n 240 [pv p 0] (.bool false) (qt h x))(a1:bqS ⟨⟨x.t⟩⟩ ⟨#[84,82,85,69]⟩=false)(a2:bqS ⟨⟨x.t⟩⟩ ⟨#[70,65,76,83,69]⟩=true)(a3:bqS ⟨⟨x.t⟩⟩ ⟨#[84,82,85,69]⟩=false):∃ H,Fn n 232 (zak p x) h zpn H∧tw1 h h.fh.wm p (h.nx+3) H (H.get p=some (.row 160 (zem r T k E d) 0 false)):=
 exV (kI (ko hp)) [aS 199 (vS x),aS 72 z72,yP a0,.l 1 9 2,yF a1,.l 1 9 2,yT a2,.l 0 3 1,yW ((k:Int)+1),.w 0 3 1 (zay k),aS 27 [iv 0,iv 0,.string ⟨#[]⟩],.w 3 27 0 (.agg #[iv 1,iv 0,.string ⟨#[]⟩]),.l 1 9 2,yF a3,.g 3 27 0 3,.w 2 72 0 zpn,.r 2 72 10] [0]
theorem zzB(g11_:h1.get (h.nx+1)=some (.row 72 z72 0 false))(_lhnx1h1:h.nx+1 < h1.nx)(a0:Pu n 240 [pv p 0] (.bool false) (qt h x))(a1:bqS ⟨⟨x.t⟩⟩ ⟨#[84,82,85,69]⟩=false)(a2:bqS ⟨⟨x.t⟩⟩ ⟨#[70,65,76,83,69]⟩=false)(a3:Pu n 30 [.string ⟨⟨x.t⟩⟩] (.agg #[iv a,iv c,.bool false]) (qt h x))(a4:RD n 79 [pv p 0] (pt (al (qt h x) 78 uA) (h.nx+2) 78 [iv a,iv c,.bool false])=some (.tuple #[],h1)):∃ H,Fn n 232 (zak p x) h (zj) H∧tl1 h1 h1.wm (h.nx+1) h1.nx H:=
 exV (kZ h) [aS 199 (vS x),aS 72 z72,yP a0,.l 0 9 2,yF a1,.l 0 9 2,yF a2,.l 0 9 2,yP a3,aS 78 uA,.w 2 78 0 (.agg #[iv a,iv c,.bool false]),.l 2 4 2,yC a4 (kI (ko g11_)),.w 0 72 0 (zj),.r 0 72 10] []
theorem zzy(hp:h.get p=some (ziA r T k E d))(_hl:p < h.nx)(_hk:k < 1000)(a0:Pu n 240 [pv p 0] (.bool false) (qt h x))(a1:bqS ⟨⟨x.t⟩⟩ ⟨#[84,82,85,69]⟩=false)(a2:bqS ⟨⟨x.t⟩⟩ ⟨#[70,65,76,83,69]⟩=false)(a3:Pu n 30 [.string ⟨⟨x.t⟩⟩] (yO a c) (qt h x))(a4:Pu n 152 (zcr p) (.bool false) (pt (zax h x a c) p 160 (zem r T k E d))):∃ H,Fn n 232 (zak p x) h (zpm a c) H∧tw1 h h.fh.wm p (h.nx+3) H (H.get p=some (.row 160 (zem r T k E d) 0 false)):=
 exV (kI (ko hp)) [aS 199 (vS x),aS 72 z72,yP a0,.l 1 9 2,yF a1,.l 1 9 2,yF a2,.l 1 9 2,yP a3,aS 78 uA,.w 3 78 0 (yO a c),.l 3 4 2,.l 0 3 1,yW ((k:Int)+1),.w 0 3 1 (zay k),yP a4,.g 3 29 0 2,.w 2 72 0 (zpm a c),.r 2 72 10] [0]
theorem zzG(hp:h.get p=some (ziA r T k E d))(_hl:p < h.nx)(_hk:k < 1000)(g11_:h1.get (h.nx+1)=some (.row 72 z72 0 false))(_lhnx1h1:h.nx+1 < h1.nx)(a0:Pu n 240 [pv p 0] (.bool false) (qt h x))(a1:bqS ⟨⟨x.t⟩⟩ ⟨#[84,82,85,69]⟩=false)(a2:bqS ⟨⟨x.t⟩⟩ ⟨#[70,65,76,83,69]⟩=false)(a3:Pu n 30 [.string ⟨⟨x.t⟩⟩] (yO a c) (qt h x))(a4:Pu n 152 (zcr p) (.bool true) (pt (zax h x a c) p 160 (zem r T k E d)))(a5:decide ((((k:Int)+1)+1:Int)≥T)=true)(a6:RD n 79 [pv p 0] (pt (pt (zax h x a c) p 160 (zem r T k E d)) p 160 [.slice r T T,iv (((k:Int)+1)+1),iv E,iv (d:Int),iv 0,iv 0])=some (.tuple #[],h1)):∃ H,Fn n 232 (zak p x) h (zj) H∧tl1 h1 h1.wm (h.nx+1) h1.nx H:=
 exV (kI (ko hp)) [aS 199 (vS x),aS 72 z72,yP a0,.l 1 9 2,yF a1,.l 1 9 2,yF a2,.l 1 9 2,yP a3,aS 78 uA,.w 3 78 0 (yO a c),.l 3 4 2,.l 0 3 1,yW ((k:Int)+1),.w 0 3 1 (zay k),yP a4,.l 0 3 1,yW (((k:Int)+1)+1),.w 0 3 1 (zdx k),.l 0 3 1,.l 0 155 0,yT a5,yN (h.nx+3),.q (.l 0 3 1),.q (.l 0 155 0),yQ (iv T),yC a6 (kI (ko g11_)),.w 0 72 0 (zj),.r 0 72 10] []
theorem zzF(hp:h.get p=some (ziB b T k E d))(hb:h.get b=some (.row 199 (tkC ts) 4 false))(hy:ts[k+1+1]? =some y)(_h1:k+1+1 < T)(_h2:T < 1000)(_hl:p < h.nx)(_hb:b < h.nx)(_hpb:b≠p)(g11_:h1.get (h.nx+1)=some (.row 72 z72 0 false))(_lhnx1h1:h.nx+1 < h1.nx)(a0:Pu n 240 [pv p 0] (.bool false) (qt h x))(a1:bqS ⟨⟨x.t⟩⟩ ⟨#[84,82,85,69]⟩=false)(a2:bqS ⟨⟨x.t⟩⟩ ⟨#[70,65,76,83,69]⟩=false)(a3:Pu n 30 [.string ⟨⟨x.t⟩⟩] (yO a c) (qt h x))(a4:Pu n 152 (zcr p) (.bool true) (pt (zax h x a c) p 160 (zf5 b T k E d)))(a5:decide ((((k:Int)+1)+1:Int)≥T)=false)(a6:(((y.k:Int):Int) !=3)=true)(a7:RD n 79 [pv p 0] (zab h x a c p b T k E d)=some (.tuple #[],h1)):∃ H,Fn n 232 (zak p x) h (zj) H∧tl1 h1 h1.wm (h.nx+1) h1.nx H:=
 exV (kJ (ko hp) (kx hb hy)) [aS 199 (vS x),aS 72 z72,yP a0,.l 2 9 2,yF a1,.l 2 9 2,yF a2,.l 2 9 2,yP a3,aS 78 uA,.w 4 78 0 (yO a c),.l 4 4 2,.l 0 3 1,yW ((k:Int)+1),.w 0 3 1 (zay k),yP a4,.l 0 3 1,yW (((k:Int)+1)+1),.w 0 3 1 (zdx k),.l 0 3 1,.l 0 155 0,yF a5,.l 0 155 0,.l 0 3 1,iC 155 199 4 b T k,.k 1 3 0,yT a6,yN (h.nx+3),.q (.l 0 3 1),.q (.l 0 155 0),yQ (iv T),.q (.l 0 155 0),.q (.l 0 3 1),.q (.k 1 3 0),yC a7 (kI (ko g11_)),.w 0 72 0 (zj),.r 0 72 10] []
theorem zzE(hp:h.get p=some (ziB b T k E d))(hb:h.get b=some (.row 199 (tkC ts) 4 false))(hy:ts[k+1+1]? =some y)(_h1:k+1+1 < T)(_h2:T < 1000)(_hl:p < h.nx)(_hb:b < h.nx)(_hpb:b≠p)(g11_:h1.get (h.nx+1)=some (.row 72 z72 0 false))(_lhnx1h1:h.nx+1 < h1.nx)(a0:Pu n 240 [pv p 0] (.bool false) (qt h x))(a1:bqS ⟨⟨x.t⟩⟩ ⟨#[84,82,85,69]⟩=false)(a2:bqS ⟨⟨x.t⟩⟩ ⟨#[70,65,76,83,69]⟩=false)(a3:Pu n 30 [.string ⟨⟨x.t⟩⟩] (yO a c) (qt h x))(a4:Pu n 152 (zcr p) (.bool true) (pt (zax h x a c) p 160 (zf5 b T k E d)))(a5:decide ((((k:Int)+1)+1:Int)≥T)=false)(a6:(((y.k:Int):Int) !=3)=false)(a7:Pu n 240 [pv p 0] (.bool true) (zab h x a c p b T k E d))(a8:RD n 79 [pv p 0] (zab h x a c p b T k E d)=some (.tuple #[],h1)):∃ H,Fn n 232 (zak p x) h (zj) H∧tl1 h1 h1.wm (h.nx+1) h1.nx H:=
 exV (kJ (ko hp) (kx hb hy)) [aS 199 (vS x),aS 72 z72,yP a0,.l 2 9 2,yF a1,.l 2 9 2,yF a2,.l 2 9 2,yP a3,aS 78 uA,.w 4 78 0 (yO a c),.l 4 4 2,.l 0 3 1,yW ((k:Int)+1),.w 0 3 1 (zay k),yP a4,.l 0 3 1,yW (((k:Int)+1)+1),.w 0 3 1 (zdx k),.l 0 3 1,.l 0 155 0,yF a5,.l 0 155 0,.l 0 3 1,iC 155 199 4 b T k,.k 1 3 0,yF a6,yP a7,yN (h.nx+3),.q (.l 0 3 1),.q (.l 0 155 0),yQ (iv T),.q (.l 0 155 0),.q (.l 0 3 1),.q (.k 1 3 0),yC a8 (kI (ko g11_)),.w 0 72 0 (zj),.r 0 72 10] []
theorem zzD(hp:h.get p=some (ziB b T k E d))(hb:h.get b=some (.row 199 (tkC ts) 4 false))(hy:ts[k+1+1]? =some y)(_h1:k+1+1 < T)(_h2:T < 1000)(_hl:p < h.nx)(_hb:b < h.nx)(_hpb:b≠p)(g11_:h1.get (h.nx+1)=some (.row 72 z72 0 false))(_lhnx1h1:h.nx+1 < h1.nx)(a0:Pu n 240 [pv p 0] (.bool false) (qt h x))(a1:bqS ⟨⟨x.t⟩⟩ ⟨#[84,82,85,69]⟩=false)(a2:bqS ⟨⟨x.t⟩⟩ ⟨#[70,65,76,83,69]⟩=false)(a3:Pu n 30 [.string ⟨⟨x.t⟩⟩] (yO a c) (qt h x))(a4:Pu n 152 (zcr p) (.bool true) (pt (zax h x a c) p 160 (zf5 b T k E d)))(a5:decide ((((k:Int)+1)+1:Int)≥T)=false)(a6:(((y.k:Int):Int) !=3)=false)(a7:Pu n 240 [pv p 0] (.bool false) (zab h x a c p b T k E d))(a8:Pu n 30 [.string ⟨⟨y.t⟩⟩] (.agg #[iv u,iv w,.bool false]) (zd 1 (zab h x a c p b T k E d)))(a9:RD n 79 [pv p 0] (pt (pt (zd 1 (zab h x a c p b T k E d)) (h.nx+3) 78 uA) (h.nx+3) 78 [iv u,iv w,.bool false])=some (.tuple #[],h1)):∃ H,Fn n 232 (zak p x) h (zj) H∧tl1 h1 h1.wm (h.nx+1) h1.nx H:=
 exV (kJ (ko hp) (kx hb hy)) [aS 199 (vS x),aS 72 z72,yP a0,.l 2 9 2,yF a1,.l 2 9 2,yF a2,.l 2 9 2,yP a3,aS 78 uA,.w 4 78 0 (yO a c),.l 4 4 2,.l 0 3 1,yW ((k:Int)+1),.w 0 3 1 (zay k),yP a4,.l 0 3 1,yW (((k:Int)+1)+1),.w 0 3 1 (zdx k),.l 0 3 1,.l 0 155 0,yF a5,.l 0 155 0,.l 0 3 1,iC 155 199 4 b T k,.k 1 3 0,yF a6,yP a7,yN (h.nx+3),.q (.l 0 3 1),.q (.l 0 155 0),yQ (iv T),.q (.l 0 155 0),.q (.l 0 3 1),.q (.k 1 3 0),.v 1,.l 0 155 0,.l 0 3 1,iC 155 199 4 b T k,.k 1 9 1,yP a8,bS 0 78 uA,.w 5 78 0 (.agg #[iv u,iv w,.bool false]),yN (h.nx+4),.j 6,.q (.l 0 155 0),.q (.l 0 3 1),.q (.k 1 9 1),.j 8,.l 5 4 2,yC a9 (kI (ko g11_)),.w 0 72 0 (zj),.r 0 72 10] []
theorem zzz(r0 c0 r1 c1:Int)(ok:Bool)(hp:h.get p=some (ziB b T k E d))(hb:h.get b=some (.row 199 (tkC ts) 4 false))(hy:ts[k+1+1]? =some y)(_h1:k+1+1 < T)(_h2:T < 1000)(_hl:p < h.nx)(_hb:b < h.nx)(_hpb:b≠p)(a0:Pu n 240 [pv p 0] (.bool false) (qt h x))(a1:bqS ⟨⟨x.t⟩⟩ ⟨#[84,82,85,69]⟩=false)(a2:bqS ⟨⟨x.t⟩⟩ ⟨#[70,65,76,83,69]⟩=false)(a3:Pu n 30 [.string ⟨⟨x.t⟩⟩] (yO a c) (qt h x))(a4:Pu n 152 (zcr p) (.bool true) (pt (zax h x a c) p 160 (zf5 b T k E d)))(a5:decide ((((k:Int)+1)+1:Int)≥T)=false)(a6:(((y.k:Int):Int) !=3)=false)(a7:Pu n 240 [pv p 0] (.bool false) (zab h x a c p b T k E d))(a8:Pu n 30 [.string ⟨⟨y.t⟩⟩] (.agg #[iv u,iv w,.bool true]) (zd 1 (zab h x a c p b T k E d)))(a9:Pu n 242 [.agg #[iv a,iv c],.agg #[iv u,iv w]] (.agg #[iv r0,iv c0,iv r1,iv c1,.bool ok]) (pt (pt (pt (zd 1 (zab h x a c p b T k E d)) (h.nx+3) 78 uA) (h.nx+3) 78 [iv u,iv w,.bool true]) p 160 [sv b 0 T T,iv ((((k:Int)+1)+1)+1),iv E,iv (d:Int),iv 0,iv 0])):∃ H,Fn n 232 (zak p x) h (zpl r0 c0 r1 c1) H∧tw1 h h.fh.wm p (h.nx+4) H (H.get p=some (.row 160 [sv b 0 T T,iv ((((k:Int)+1)+1)+1),iv E,iv (d:Int),iv 0,iv 0] 0 false)):=
 exV (kJ (ko hp) (kx hb hy)) [aS 199 (vS x),aS 72 z72,yP a0,.l 2 9 2,yF a1,.l 2 9 2,yF a2,.l 2 9 2,yP a3,aS 78 uA,.w 4 78 0 (yO a c),.l 4 4 2,.l 0 3 1,yW ((k:Int)+1),.w 0 3 1 (zay k),yP a4,.l 0 3 1,yW (((k:Int)+1)+1),.w 0 3 1 (zdx k),.l 0 3 1,.l 0 155 0,yF a5,.l 0 155 0,.l 0 3 1,iC 155 199 4 b T k,.k 1 3 0,yF a6,yP a7,yN (h.nx+3),.q (.l 0 3 1),.q (.l 0 155 0),yQ (iv T),.q (.l 0 155 0),.q (.l 0 3 1),.q (.k 1 3 0),.v 1,.l 0 155 0,.l 0 3 1,iC 155 199 4 b T k,.k 1 9 1,yP a8,bS 0 78 uA,.w 5 78 0 (.agg #[iv u,iv w,.bool true]),yN (h.nx+4),.j 6,.q (.l 0 155 0),.q (.l 0 3 1),.q (.k 1 9 1),.j 8,.l 5 4 2,.l 0 3 1,yW ((((k:Int)+1)+1)+1),.w 0 3 1 (iv ((((k:Int)+1)+1)+1)),.g 4 29 0 2,.g 5 29 0 2,yP a9,.w 3 72 0 (zpl r0 c0 r1 c1),.r 3 72 10] [0]
end
end Go.PanE
