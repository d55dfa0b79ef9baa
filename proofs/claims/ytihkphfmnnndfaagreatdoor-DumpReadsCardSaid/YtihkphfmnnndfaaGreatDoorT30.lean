/-
 Part 30 of the proof of Rows.DumpReadsCardSaid: The parser of the first text, its rows: their laws, printed by k6.py.
 The parser of the first text: sums, products, what stands within signs.
 No conditions.
-/
import Derived.Test.YtihkphfmnnndfaaGreatDoorT29
namespace Go.PanE
open Go.Proofs
section
variable {m:Int} {h:Heap} {p b:Nat} {ts:List Tk} {E k:Nat}
/-- One object that is neither the parser's nor the tokens' has turned. -/
theorem PSt.away{g:Heap}{B es:Nat}{cs:List Value}(s:PSt m h p b ts E k)(hg:∀ c,c < h.nx→c≠B→g.get c=h.get c)(hn:h.nx≤g.nx)(hB:h.get B=some (.row 72 cs es false))(h6:6≤B):PSt m g p b ts E k:=by
 have hpB:p≠B:=by
  rintro rfl
  have:=s.pp
  rw[hB] at this
  cases this
 refine⟨s.gl.fr (p:=B) ⟨hn,hg⟩ h6,s.p6,(hg p s.lt hpB).trans s.pp,s.tk.imp id fun h1=>(hg b (Heap.lt_of_get h1) ?_).trans h1,s.kT,s.tT⟩
 rintro rfl
 rw[hB] at h1
 cases h1
end
section
variable {m:Int} {p b:Nat} {ts:List Tk} {E:Nat}
/-- A row's slots. -/
abbrev RS_ra(p d q B8 B10:Nat)(e:Value):List (Nat×Value):=[(0,pv p 0),(1,iv ((d:Nat):Int)),(2,.func (.func 224) #[pv p 0] #[]),(3,sv q 0 3 3),(8,pv B8 0),(10,pv B10 0),(11,e)]
theorem ra_loop{f:PR}{d N:Nat}{ops:List (List UInt8)}(hops:ops.length=3)(hf:LawA m p b ts E N 224 d f)(hp:Prog ts f)(hN:3≤N)(n:Nat)(hn:N≤n)(q B8 B10 lo:Nat)(hB:B8 < B10)(hlo:B8 < lo)(hpB:p < B8)(hqB:q < B8)(hqp:q≠p):
  ∀ (i k:Nat) (t:Tr) (x:Hd) (r:Option Addr) (l:Nat) (h:Heap),ts.length - k < i→lo≤h.nx→PSt m h p b ts E k→NodeC h (fun c=>lo≤c∧c≠B10) x r l t→h.get B8=some (.row 72 z72 0 false)→h.get B10=some (.row 72 (ndL x r l) 0 false)→
   h.get q=some (.row 9 (ops.map fun s=>.string ⟨⟨s⟩⟩) 0 false)→h.wm≤p→
   ∃ hL R,R≤i+2∧h.nx≤hL.nx∧(∀ c,c < B8→c≠p→hL.get c=h.get c)∧hL.wm≤h.wm∧
    match rowF ts ops f i t k with
    | .ok t' k'=>∃ x' r' l',Loops En (RD n) 46 5000 (sub [1,1,0,0,0] (bodyOf Tryz.f223)) (RS_ra p d q B8 B10 .nilIface) h .ret [(8,pv B8 0),(9,.nilIface)] hL R∧hL.get B8=some (.row 72 (ndL x' r' l') 0 false)∧NodeC hL (fun c=>lo≤c∧c≠B10) x' r' l' t'∧PSt m hL p b ts E k'
    | .err pos c=>∃ e k',Loops En (RD n) 46 5000 (sub [1,1,0,0,0] (bodyOf Tryz.f223)) (RS_ra p d q B8 B10 .nilIface) h (.exit 0) [(8,pv B8 0),(11,.iface 242 (pv e 0))] hL R∧hL.get B8=some (.row 72 z72 0 false)∧lo≤e∧hL.get e=some (.row 245 [.int .i64 (pos:Int),.int .i64 (c:Int)] 0 false)∧PSt m hL p b ts E k':=by
 intro i
 induction i with
 |zero=>intro k t x r l h hk;omega
 |succ i ih=>
  intro k t x r l h hk hnx s Nx g8 g10 gq hw
  have h6:=s.p6
  obtain⟨v1,h1,e1,S1⟩:=sign_law (ops:=ops) s n (by omega) gq (by omega)
  rw[hops] at e1
  unfold SgTo at S1
  simp only[rowF]
  cases hs:sg ts ops k with
  |none=>
   rw[hs] at S1
   obtain⟨rfl,rfl⟩:=S1
   obtain⟨H,e,g,nx,wm,_,w⟩:=ra_none h1 p d q B8 B10 n x r l (by omega) g8 g10 e1
   refine⟨H,1,by omega,by omega,fun c hc _=>g c (by omega) (by omega),wm,x,r,l,.ret e,w,?_,?_⟩
   ·exact Nx.mono fun c o hc e=>⟨hc,(g c (Heap.lt_of_get e) (by omega)).trans e⟩
   ·exact s.away (fun c hc hn=>g c hc hn) (by omega) g8 (by omega)
  |some sn=>
   rw[hs] at S1
   obtain⟨rfl,F1,n1,s1,w1,wp1⟩:=S1
   have K1:Kp h1 (al h1 72 z72):=(Kp.refl h1).al _ _
   obtain⟨v2,h2,e2,F2,w2,R2⟩:=hf n _ (k+1) hn (s1.kp K1)
   have l2:h1.nx < h2.nx:=F2.nx
   have g14:h2.get h1.nx=some (.row 72 z72 0 false):=(F2.get _ (Nat.lt_succ_self _) (by omega)).trans (Heap.get_new _ _)
   have T2:Fr h h2 p:=(F1.trans (K1.fr p)).trans F2
   have w2':h2.wm≤h.wm:=Nat.le_trans w2 w1
   simp only
   cases hu:f (k+1) with
   |err pos c=>
    rw[hu] at R2
    obtain⟨e,k',rfl,hq,ge,s2⟩:=R2
    have hq':h1.nx+1≤e:=hq
    obtain⟨H,eb,g,nx,wm,_⟩:=ra_err h h1 h2 p d q B8 B10 e n sn g14 l2 e1 e2
    refine⟨H,2,by omega,by have:=T2.nx;omega,fun c hc hcp=>(g c (by have:=T2.nx;omega) (by omega)).trans (T2.get c (by omega) hcp),by omega,e,k',.on eb (.out (ra_end H p d q B8 B10 e n)),?_,by omega,?_,?_⟩
    ·exact(g B8 (by omega) (by omega)).trans ((T2.get B8 (by omega) (by omega)).trans g8)
    ·exact(g e (Heap.lt_of_get ge) (by omega)).trans ge
    ·exact s2.away (fun c hc hn=>g c hc hn) (by omega) g14 (by omega)
   |ok u k1=>
    rw[hu] at R2
    obtain⟨y,yr,yl,rfl,Ny,s2,wp2⟩:=R2
    have hk1:=hp _ _ _ hu
    have K2:Kp h2 h2:=Kp.refl h2
    have hB10:=Heap.lt_of_get g10
    have gx2:h2.get B10=some (.row 72 (ndL x r l) 0 false):=(T2.get B10 (by omega) (by omega)).trans g10
    have Nx2:NodeC (pt h2 h1.nx 72 (ndL y yr yl)) (fun c=>lo≤c∧c≠B10) x r l t:=Nx.mono fun c o hc e=>⟨hc,(Heap.get_put_other _ _ _ _ l2 (by have:=Heap.lt_of_get e;omega)).trans ((T2.get c (Heap.lt_of_get e) (by omega)).trans e)⟩
    have Ny2:NodeC (pt h2 h1.nx 72 (ndL y yr yl)) (fun c=>lo≤c∧c≠B10) y yr yl u:=NodeC.mono (h:=h2) (P:=fun c=>h1.nx+1≤c∧c < h2.nx) (t:=u) (fun c o hc e=>by
     have hc1:h1.nx+1≤c:=hc.1
     exact⟨⟨by omega,by omega⟩,(Heap.get_put_other _ _ _ _ l2 (by omega)).trans e⟩) Ny
    have l2':(pt h2 h1.nx 72 (ndL y yr yl)).nx=h2.nx:=rfl
    obtain⟨h3,e3,K3,N3,_⟩:=two_lawC (Q:=fun c=>lo≤c∧c≠B10) sn n (by omega) Nx2 Ny2 (fun c hc _=>hc) ⟨by omega,by omega⟩
    have g32:∀ c,c < h2.nx→c≠h1.nx→h3.get c=h2.get c:=fun c hc hn=>(K3.get c hc).trans (Heap.get_put_other _ _ _ _ l2 hn)
    have l3:h2.nx≤h3.nx:=K3.nx
    have w3:h3.wm≤h2.wm:=by
     have:h3.wm≤(pt h2 h1.nx 72 (ndL y yr yl)).wm:=K3.wm
     rw[Heap.wm_put] at this;omega
    have gx3:=(g32 B10 (by omega) (by omega)).trans gx2
    obtain⟨H,eb,g,nx,wm,_,w⟩:=ra_ok h h1 h2 h3 p d q B8 B10 n sn x r l y yr yl (hdOp 5 sn) (some ⟨h2.nx+3,0,none⟩) 2 g14 l2 (by omega) gx2 gx3 (by omega) e1 e2 e3
    have s3:PSt m h3 p b ts E k1:=s2.away g32 l3 g14 (by omega)
    have sH:PSt m H p b ts E k1:=s3.away (fun c hc hn=>g c hc hn) (by omega) gx3 (by omega)
    have NH:NodeC H (fun c=>lo≤c∧c≠B10) (hdOp 5 sn) (some ⟨h2.nx+3,0,none⟩) 2 (twoT sn t u):=N3.mono fun c o hc e=>⟨hc,(g c (Heap.lt_of_get e) hc.2).trans e⟩
    have gH:∀ c,c < B8→c≠p→H.get c=h.get c:=fun c hc hcp=>(g c (by have:=T2.nx;omega) (by omega)).trans ((g32 c (by have:=T2.nx;omega) (by omega)).trans (T2.get c (by omega) hcp))
    have g8H:H.get B8=some (.row 72 z72 0 false):=(g B8 (by omega) (by omega)).trans ((g32 B8 (by omega) (by omega)).trans ((T2.get B8 (by omega) (by omega)).trans g8))
    obtain⟨hL,R,hR,nL,gL,wL,RL⟩:=ih k1 (twoT sn t u) (hdOp 5 sn) (some ⟨h2.nx+3,0,none⟩) 2 H (by omega) (by omega) sH NH g8H w ((gH q hqB hqp).trans gq) (by omega)
    refine⟨hL,R+1,by omega,by have:=T2.nx;omega,fun c hc hcp=>(gL c hc hcp).trans (gH c hc hcp),by omega,?_⟩
    simp only
    split at RL
    next t' k' e4=>
     obtain⟨x',r',l',L,a,c,d⟩:=RL
     exact⟨x',r',l',.on eb L,a,c,d⟩
    next pos c e4=>
     obtain⟨e,k',L,a,c,d,f⟩:=RL
     exact⟨e,k',.on eb L,a,c,d,f⟩
/-- The law of row. -/
theorem ra_row{f:PR}{d N:Nat}{ops:List (List UInt8)}(hops:ops.length=3)(hf:LawA m p b ts E N 224 d f)(hp:Prog ts f)(hN:3≤N)(n:Nat)(hn:N+1≤n)(h:Heap)(k q:Nat)(s:PSt m h p b ts E k)(gq:h.get q=some (.row 9 (ops.map fun s=>.string ⟨⟨s⟩⟩) 0 false)):
  ∃ v h',RD n 223 [pv p 0,iv ((d:Nat):Int),.func (.func 224) #[pv p 0] #[],sv q 0 3 3] h=some (v,h')∧ResA m h p b ts E (rowP ts ops f k) v h':=by
 obtain⟨n,rfl⟩:∃ m,n=m+1:=⟨n - 1,by omega⟩
 have K0:Kp h.fresh (al h.fresh 72 z72):=(Kp.refl _).al 72 z72
 have hpl:=s.lt
 have hql:=Heap.lt_of_get gq
 have hqp:q≠p:=by
  rintro rfl
  have:=s.pp
  rw[gq] at this
  cases this
 obtain⟨v1,h1,e1,F1,_,R1⟩:=hf n _ k (by omega) (s.fresh.kp K0)
 have l1:h.nx < h1.nx:=F1.nx
 have g1:h1.get h.nx=some (.row 72 z72 0 false):=(F1.get h.nx (Nat.lt_succ_self _) (by omega)).trans (Heap.get_new h.fresh _)
 have T1:=(K0.fr p).trans F1
 unfold rowP
 cases hu:f k with
 |err pos c=>
  rw[hu] at R1
  obtain⟨e,k',rfl,hq,ge,s1⟩:=R1
  have hq':h.nx+1≤e:=hq
  have K1:Kp h1 (pt (al h1 72 z72) h1.nx 72 z72):=((Kp.refl h1).al _ _).pt _ _ (Nat.le_refl _) (Nat.lt_succ_self _)
  have L:Loops En (RD n) 46 5000 (sub [1,1,0,0,0] (bodyOf Tryz.f223)) (RS_ra p d q h.nx h1.nx (.iface 242 (pv e 0))) (pt (al h1 72 z72) h1.nx 72 z72) (.exit 0) [(8,pv h.nx 0),(11,.iface 242 (pv e 0))] (pt (al h1 72 z72) h1.nx 72 z72) 1:=.out (ra_end _ p d q h.nx h1.nx e n)
  obtain⟨H,eb,g,nx,_⟩:=ra_pe h h1 _ p d q e n g1 l1 ((K1.get _ l1).trans g1) (Nat.lt_of_lt_of_le l1 K1.nx) e1 (L.fact' (by omega) ⟨by kernel_rfl,by kernel_rfl,by kernel_rfl,by kernel_rfl,by kernel_rfl,by kernel_rfl,by kernel_rfl,trivial⟩)
  exact res_err (lo:=h.nx+1) eb s (T1.trans (K1.fr p)) (fun c hc hd=>g c hc (by omega)) (by omega) (by omega) (by omega) ((K1.get e (Heap.lt_of_get ge)).trans ge) (s1.kp K1)
 |ok t k1=>
  rw[hu] at R1
  obtain⟨x,r,l,rfl,N1,s1,wp⟩:=R1
  have K1:Kp h1 (pt (al h1 72 z72) h1.nx 72 (ndL x r l)):=((Kp.refl h1).al _ _).pt _ _ (Nat.le_refl _) (Nat.lt_succ_self _)
  have hq1:h1.get q=some (.row 9 (ops.map fun s=>.string ⟨⟨s⟩⟩) 0 false):=(F1.get q (by show q < h.nx+1;omega) hqp).trans ((K0.get q hql).trans gq)
  obtain⟨hL,R,hR,nL,gL,wL,RL⟩:=ra_loop hops hf hp hN n (by omega) q h.nx h1.nx (h.nx+1) l1 (by omega) hpl hql hqp 400 k1 t x r l (pt (al h1 72 z72) h1.nx 72 (ndL x r l)) (by have:=s.tT;omega) (by show h.nx+1≤h1.nx+1;omega) (s1.kp K1)
   (NodeC.mono (fun c o hc e=>⟨⟨hc.1,by have:=hc.2;omega⟩,(K1.get c (Heap.lt_of_get e)).trans e⟩) N1) ((K1.get _ l1).trans g1) (Heap.get_put_same _ _ _ (Nat.lt_succ_self _)) ((K1.get q (by omega)).trans hq1) (Nat.le_trans K1.wm wp)
  have nL':h1.nx+1≤hL.nx:=nL
  have FL:Fr h.fresh hL p:=⟨by show h.nx≤hL.nx;omega,fun c hc hcp=>(gL c hc hcp).trans ((K1.get c (by have:c < h.nx:=hc;omega)).trans (T1.get c hc hcp))⟩
  have hwL:hL.wm≤p:=Nat.le_trans wL (Nat.le_trans K1.wm wp)
  simp only
  split at RL
  next t' k' e4=>
   obtain⟨x',r',l',L,a,c,sL⟩:=RL
   rw[e4]
   have eb:=ra_pk h h1 hL p d q n x r l x' r' l' g1 l1 a (by omega) e1 (L.fact' (by omega) ⟨by kernel_rfl,by kernel_rfl,by kernel_rfl,by kernel_rfl,by kernel_rfl,by kernel_rfl,by kernel_rfl,trivial⟩)
   exact res_ok2 (lo:=h.nx) eb s FL (fun _ _ _=>rfl) (Nat.le_refl _) (Nat.le_refl _) (c.mono fun c o hc e=>⟨⟨by have:=hc.1;omega,Heap.lt_of_get e⟩,e⟩) sL hwL
  next pos c e4=>
   obtain⟨e,k',L,a,c1,d1,sL⟩:=RL
   rw[e4]
   obtain⟨H,eb,g,nx,_⟩:=ra_px h h1 hL p d q e n x r l g1 l1 a (by omega) e1 (L.fact' (by omega) ⟨by kernel_rfl,by kernel_rfl,by kernel_rfl,by kernel_rfl,by kernel_rfl,by kernel_rfl,by kernel_rfl,trivial⟩)
   exact res_err (lo:=h.nx+1) eb s FL (fun c hc hd=>g c hc (by omega)) (by omega) (by omega) c1 d1 sL
/-- A row's slots. -/
abbrev RS_rb(p d q B8 B10:Nat)(e:Value):List (Nat×Value):=[(0,pv p 0),(1,iv ((d:Nat):Int)),(2,.func (.func 231) #[pv p 0] #[]),(3,sv q 0 3 3),(8,pv B8 0),(10,pv B10 0),(11,e)]
theorem rb_loop{f:PR}{d N:Nat}{ops:List (List UInt8)}(hops:ops.length=3)(hf:LawA m p b ts E N 231 d f)(hp:Prog ts f)(hN:3≤N)(n:Nat)(hn:N≤n)(q B8 B10 lo:Nat)(hB:B8 < B10)(hlo:B8 < lo)(hpB:p < B8)(hqB:q < B8)(hqp:q≠p):
  ∀ (i k:Nat) (t:Tr) (x:Hd) (r:Option Addr) (l:Nat) (h:Heap),ts.length - k < i→lo≤h.nx→PSt m h p b ts E k→NodeC h (fun c=>lo≤c∧c≠B10) x r l t→h.get B8=some (.row 72 z72 0 false)→h.get B10=some (.row 72 (ndL x r l) 0 false)→
   h.get q=some (.row 9 (ops.map fun s=>.string ⟨⟨s⟩⟩) 0 false)→h.wm≤p→
   ∃ hL R,R≤i+2∧h.nx≤hL.nx∧(∀ c,c < B8→c≠p→hL.get c=h.get c)∧hL.wm≤h.wm∧
    match rowF ts ops f i t k with
    | .ok t' k'=>∃ x' r' l',Loops En (RD n) 46 5000 (sub [1,1,0,0,0] (bodyOf Tryz.f223)) (RS_rb p d q B8 B10 .nilIface) h .ret [(8,pv B8 0),(9,.nilIface)] hL R∧hL.get B8=some (.row 72 (ndL x' r' l') 0 false)∧NodeC hL (fun c=>lo≤c∧c≠B10) x' r' l' t'∧PSt m hL p b ts E k'
    | .err pos c=>∃ e k',Loops En (RD n) 46 5000 (sub [1,1,0,0,0] (bodyOf Tryz.f223)) (RS_rb p d q B8 B10 .nilIface) h (.exit 0) [(8,pv B8 0),(11,.iface 242 (pv e 0))] hL R∧hL.get B8=some (.row 72 z72 0 false)∧lo≤e∧hL.get e=some (.row 245 [.int .i64 (pos:Int),.int .i64 (c:Int)] 0 false)∧PSt m hL p b ts E k':=by
 intro i
 induction i with
 |zero=>intro k t x r l h hk;omega
 |succ i ih=>
  intro k t x r l h hk hnx s Nx g8 g10 gq hw
  have h6:=s.p6
  obtain⟨v1,h1,e1,S1⟩:=sign_law (ops:=ops) s n (by omega) gq (by omega)
  rw[hops] at e1
  unfold SgTo at S1
  simp only[rowF]
  cases hs:sg ts ops k with
  |none=>
   rw[hs] at S1
   obtain⟨rfl,rfl⟩:=S1
   obtain⟨H,e,g,nx,wm,_,w⟩:=rb_none h1 p d q B8 B10 n x r l (by omega) g8 g10 e1
   refine⟨H,1,by omega,by omega,fun c hc _=>g c (by omega) (by omega),wm,x,r,l,.ret e,w,?_,?_⟩
   ·exact Nx.mono fun c o hc e=>⟨hc,(g c (Heap.lt_of_get e) (by omega)).trans e⟩
   ·exact s.away (fun c hc hn=>g c hc hn) (by omega) g8 (by omega)
  |some sn=>
   rw[hs] at S1
   obtain⟨rfl,F1,n1,s1,w1,wp1⟩:=S1
   have K1:Kp h1 (al h1 72 z72):=(Kp.refl h1).al _ _
   obtain⟨v2,h2,e2,F2,w2,R2⟩:=hf n _ (k+1) hn (s1.kp K1)
   have l2:h1.nx < h2.nx:=F2.nx
   have g14:h2.get h1.nx=some (.row 72 z72 0 false):=(F2.get _ (Nat.lt_succ_self _) (by omega)).trans (Heap.get_new _ _)
   have T2:Fr h h2 p:=(F1.trans (K1.fr p)).trans F2
   have w2':h2.wm≤h.wm:=Nat.le_trans w2 w1
   simp only
   cases hu:f (k+1) with
   |err pos c=>
    rw[hu] at R2
    obtain⟨e,k',rfl,hq,ge,s2⟩:=R2
    have hq':h1.nx+1≤e:=hq
    obtain⟨H,eb,g,nx,wm,_⟩:=rb_err h h1 h2 p d q B8 B10 e n sn g14 l2 e1 e2
    refine⟨H,2,by omega,by have:=T2.nx;omega,fun c hc hcp=>(g c (by have:=T2.nx;omega) (by omega)).trans (T2.get c (by omega) hcp),by omega,e,k',.on eb (.out (rb_end H p d q B8 B10 e n)),?_,by omega,?_,?_⟩
    ·exact(g B8 (by omega) (by omega)).trans ((T2.get B8 (by omega) (by omega)).trans g8)
    ·exact(g e (Heap.lt_of_get ge) (by omega)).trans ge
    ·exact s2.away (fun c hc hn=>g c hc hn) (by omega) g14 (by omega)
   |ok u k1=>
    rw[hu] at R2
    obtain⟨y,yr,yl,rfl,Ny,s2,wp2⟩:=R2
    have hk1:=hp _ _ _ hu
    have K2:Kp h2 h2:=Kp.refl h2
    have hB10:=Heap.lt_of_get g10
    have gx2:h2.get B10=some (.row 72 (ndL x r l) 0 false):=(T2.get B10 (by omega) (by omega)).trans g10
    have Nx2:NodeC (pt h2 h1.nx 72 (ndL y yr yl)) (fun c=>lo≤c∧c≠B10) x r l t:=Nx.mono fun c o hc e=>⟨hc,(Heap.get_put_other _ _ _ _ l2 (by have:=Heap.lt_of_get e;omega)).trans ((T2.get c (Heap.lt_of_get e) (by omega)).trans e)⟩
    have Ny2:NodeC (pt h2 h1.nx 72 (ndL y yr yl)) (fun c=>lo≤c∧c≠B10) y yr yl u:=NodeC.mono (h:=h2) (P:=fun c=>h1.nx+1≤c∧c < h2.nx) (t:=u) (fun c o hc e=>by
     have hc1:h1.nx+1≤c:=hc.1
     exact⟨⟨by omega,by omega⟩,(Heap.get_put_other _ _ _ _ l2 (by omega)).trans e⟩) Ny
    have l2':(pt h2 h1.nx 72 (ndL y yr yl)).nx=h2.nx:=rfl
    obtain⟨h3,e3,K3,N3,_⟩:=two_lawC (Q:=fun c=>lo≤c∧c≠B10) sn n (by omega) Nx2 Ny2 (fun c hc _=>hc) ⟨by omega,by omega⟩
    have g32:∀ c,c < h2.nx→c≠h1.nx→h3.get c=h2.get c:=fun c hc hn=>(K3.get c hc).trans (Heap.get_put_other _ _ _ _ l2 hn)
    have l3:h2.nx≤h3.nx:=K3.nx
    have w3:h3.wm≤h2.wm:=by
     have:h3.wm≤(pt h2 h1.nx 72 (ndL y yr yl)).wm:=K3.wm
     rw[Heap.wm_put] at this;omega
    have gx3:=(g32 B10 (by omega) (by omega)).trans gx2
    obtain⟨H,eb,g,nx,wm,_,w⟩:=rb_ok h h1 h2 h3 p d q B8 B10 n sn x r l y yr yl (hdOp 5 sn) (some ⟨h2.nx+3,0,none⟩) 2 g14 l2 (by omega) gx2 gx3 (by omega) e1 e2 e3
    have s3:PSt m h3 p b ts E k1:=s2.away g32 l3 g14 (by omega)
    have sH:PSt m H p b ts E k1:=s3.away (fun c hc hn=>g c hc hn) (by omega) gx3 (by omega)
    have NH:NodeC H (fun c=>lo≤c∧c≠B10) (hdOp 5 sn) (some ⟨h2.nx+3,0,none⟩) 2 (twoT sn t u):=N3.mono fun c o hc e=>⟨hc,(g c (Heap.lt_of_get e) hc.2).trans e⟩
    have gH:∀ c,c < B8→c≠p→H.get c=h.get c:=fun c hc hcp=>(g c (by have:=T2.nx;omega) (by omega)).trans ((g32 c (by have:=T2.nx;omega) (by omega)).trans (T2.get c (by omega) hcp))
    have g8H:H.get B8=some (.row 72 z72 0 false):=(g B8 (by omega) (by omega)).trans ((g32 B8 (by omega) (by omega)).trans ((T2.get B8 (by omega) (by omega)).trans g8))
    obtain⟨hL,R,hR,nL,gL,wL,RL⟩:=ih k1 (twoT sn t u) (hdOp 5 sn) (some ⟨h2.nx+3,0,none⟩) 2 H (by omega) (by omega) sH NH g8H w ((gH q hqB hqp).trans gq) (by omega)
    refine⟨hL,R+1,by omega,by have:=T2.nx;omega,fun c hc hcp=>(gL c hc hcp).trans (gH c hc hcp),by omega,?_⟩
    simp only
    split at RL
    next t' k' e4=>
     obtain⟨x',r',l',L,a,c,d⟩:=RL
     exact⟨x',r',l',.on eb L,a,c,d⟩
    next pos c e4=>
     obtain⟨e,k',L,a,c,d,f⟩:=RL
     exact⟨e,k',.on eb L,a,c,d,f⟩
/-- The law of row. -/
theorem rb_row{f:PR}{d N:Nat}{ops:List (List UInt8)}(hops:ops.length=3)(hf:LawA m p b ts E N 231 d f)(hp:Prog ts f)(hN:3≤N)(n:Nat)(hn:N+1≤n)(h:Heap)(k q:Nat)(s:PSt m h p b ts E k)(gq:h.get q=some (.row 9 (ops.map fun s=>.string ⟨⟨s⟩⟩) 0 false)):
  ∃ v h',RD n 223 [pv p 0,iv ((d:Nat):Int),.func (.func 231) #[pv p 0] #[],sv q 0 3 3] h=some (v,h')∧ResA m h p b ts E (rowP ts ops f k) v h':=by
 obtain⟨n,rfl⟩:∃ m,n=m+1:=⟨n - 1,by omega⟩
 have K0:Kp h.fresh (al h.fresh 72 z72):=(Kp.refl _).al 72 z72
 have hpl:=s.lt
 have hql:=Heap.lt_of_get gq
 have hqp:q≠p:=by
  rintro rfl
  have:=s.pp
  rw[gq] at this
  cases this
 obtain⟨v1,h1,e1,F1,_,R1⟩:=hf n _ k (by omega) (s.fresh.kp K0)
 have l1:h.nx < h1.nx:=F1.nx
 have g1:h1.get h.nx=some (.row 72 z72 0 false):=(F1.get h.nx (Nat.lt_succ_self _) (by omega)).trans (Heap.get_new h.fresh _)
 have T1:=(K0.fr p).trans F1
 unfold rowP
 cases hu:f k with
 |err pos c=>
  rw[hu] at R1
  obtain⟨e,k',rfl,hq,ge,s1⟩:=R1
  have hq':h.nx+1≤e:=hq
  have K1:Kp h1 (pt (al h1 72 z72) h1.nx 72 z72):=((Kp.refl h1).al _ _).pt _ _ (Nat.le_refl _) (Nat.lt_succ_self _)
  have L:Loops En (RD n) 46 5000 (sub [1,1,0,0,0] (bodyOf Tryz.f223)) (RS_rb p d q h.nx h1.nx (.iface 242 (pv e 0))) (pt (al h1 72 z72) h1.nx 72 z72) (.exit 0) [(8,pv h.nx 0),(11,.iface 242 (pv e 0))] (pt (al h1 72 z72) h1.nx 72 z72) 1:=.out (rb_end _ p d q h.nx h1.nx e n)
  obtain⟨H,eb,g,nx,_⟩:=rb_pe h h1 _ p d q e n g1 l1 ((K1.get _ l1).trans g1) (Nat.lt_of_lt_of_le l1 K1.nx) e1 (L.fact' (by omega) ⟨by kernel_rfl,by kernel_rfl,by kernel_rfl,by kernel_rfl,by kernel_rfl,by kernel_rfl,by kernel_rfl,trivial⟩)
  exact res_err (lo:=h.nx+1) eb s (T1.trans (K1.fr p)) (fun c hc hd=>g c hc (by omega)) (by omega) (by omega) (by omega) ((K1.get e (Heap.lt_of_get ge)).trans ge) (s1.kp K1)
 |ok t k1=>
  rw[hu] at R1
  obtain⟨x,r,l,rfl,N1,s1,wp⟩:=R1
  have K1:Kp h1 (pt (al h1 72 z72) h1.nx 72 (ndL x r l)):=((Kp.refl h1).al _ _).pt _ _ (Nat.le_refl _) (Nat.lt_succ_self _)
  have hq1:h1.get q=some (.row 9 (ops.map fun s=>.string ⟨⟨s⟩⟩) 0 false):=(F1.get q (by show q < h.nx+1;omega) hqp).trans ((K0.get q hql).trans gq)
  obtain⟨hL,R,hR,nL,gL,wL,RL⟩:=rb_loop hops hf hp hN n (by omega) q h.nx h1.nx (h.nx+1) l1 (by omega) hpl hql hqp 400 k1 t x r l (pt (al h1 72 z72) h1.nx 72 (ndL x r l)) (by have:=s.tT;omega) (by show h.nx+1≤h1.nx+1;omega) (s1.kp K1)
   (NodeC.mono (fun c o hc e=>⟨⟨hc.1,by have:=hc.2;omega⟩,(K1.get c (Heap.lt_of_get e)).trans e⟩) N1) ((K1.get _ l1).trans g1) (Heap.get_put_same _ _ _ (Nat.lt_succ_self _)) ((K1.get q (by omega)).trans hq1) (Nat.le_trans K1.wm wp)
  have nL':h1.nx+1≤hL.nx:=nL
  have FL:Fr h.fresh hL p:=⟨by show h.nx≤hL.nx;omega,fun c hc hcp=>(gL c hc hcp).trans ((K1.get c (by have:c < h.nx:=hc;omega)).trans (T1.get c hc hcp))⟩
  have hwL:hL.wm≤p:=Nat.le_trans wL (Nat.le_trans K1.wm wp)
  simp only
  split at RL
  next t' k' e4=>
   obtain⟨x',r',l',L,a,c,sL⟩:=RL
   rw[e4]
   have eb:=rb_pk h h1 hL p d q n x r l x' r' l' g1 l1 a (by omega) e1 (L.fact' (by omega) ⟨by kernel_rfl,by kernel_rfl,by kernel_rfl,by kernel_rfl,by kernel_rfl,by kernel_rfl,by kernel_rfl,trivial⟩)
   exact res_ok2 (lo:=h.nx) eb s FL (fun _ _ _=>rfl) (Nat.le_refl _) (Nat.le_refl _) (c.mono fun c o hc e=>⟨⟨by have:=hc.1;omega,Heap.lt_of_get e⟩,e⟩) sL hwL
  next pos c e4=>
   obtain⟨e,k',L,a,c1,d1,sL⟩:=RL
   rw[e4]
   obtain⟨H,eb,g,nx,_⟩:=rb_px h h1 hL p d q e n x r l g1 l1 a (by omega) e1 (L.fact' (by omega) ⟨by kernel_rfl,by kernel_rfl,by kernel_rfl,by kernel_rfl,by kernel_rfl,by kernel_rfl,by kernel_rfl,trivial⟩)
   exact res_err (lo:=h.nx+1) eb s FL (fun c hc hd=>g c hc (by omega)) (by omega) (by omega) c1 d1 sL
end
end Go.PanE
namespace Go.PanE
open Go.Proofs
section
variable {m:Int} {p b:Nat} {ts:List Tk} {E:Nat}
theorem sum_law{f:PR}{d N:Nat}(hf:LawA m p b ts E N 224 d f)(hp:Prog ts f)(hN:3≤N):LawA m p b ts E (N+2) 199 d (rowP ts sumO f):=by
 intro n h k hn s
 obtain⟨n,rfl⟩:∃ m,n=m+1:=⟨n - 1,by omega⟩
 have K0:Kp h.fresh (al (al h.fresh 72 z72) 9 [.string ⟨#[43]⟩,.string ⟨#[45]⟩,.string ⟨#[38]⟩]):=((Kp.refl _).al 72 z72).al _ _
 have hpl:=s.lt
 obtain⟨v1,h1,e1,F1,_,R1⟩:=ra_row (ops:=sumO) rfl hf hp hN n (by omega) _ k (h.nx+1) (s.fresh.kp K0) (Heap.get_new _ _)
 have l1:h.nx+2≤h1.nx:=F1.nx
 have g1:h1.get h.nx=some (.row 72 z72 0 false):=(F1.get h.nx (by show h.nx < h.nx+1+1;omega) (by omega)).trans ((Heap.get_old _ _ (Nat.lt_succ_self _)).trans (Heap.get_new h.fresh _))
 have T1:=(K0.fr p).trans F1
 split at R1
 next t k' e=>
  obtain⟨x,r,l,rfl,N1,s1,wp⟩:=R1
  rw[e]
  obtain⟨H,eb,g,nx,wm,_⟩:=sm_ok h h1 p d n x r l g1 (by omega) e1
  exact res_ok (lo:=h.nx+2) eb s T1 (fun c hc hd=>g c hc (by omega)) (by omega) (by omega) N1 (Nat.le_refl _) s1 (by omega)
 next pos c e=>
  obtain⟨q,k',rfl,hq,gq,s1⟩:=R1
  rw[e]
  have hq':h.nx+2≤q:=hq
  obtain⟨H,eb,g,nx,_⟩:=sm_e h h1 p d q n g1 (by omega) e1
  exact res_err (lo:=h.nx+1) eb s T1 (fun c hc hd=>g c hc (by omega)) (by omega) (by omega) (by omega) gq s1
theorem product_law{f:PR}{d N:Nat}(hf:LawA m p b ts E N 231 d f)(hp:Prog ts f)(hN:3≤N):LawA m p b ts E (N+2) 224 d (rowP ts prodO f):=by
 intro n h k hn s
 obtain⟨n,rfl⟩:∃ m,n=m+1:=⟨n - 1,by omega⟩
 have K0:Kp h.fresh (al (al h.fresh 72 z72) 9 [.string ⟨#[42]⟩,.string ⟨#[47]⟩,.string ⟨#[37]⟩]):=((Kp.refl _).al 72 z72).al _ _
 have hpl:=s.lt
 obtain⟨v1,h1,e1,F1,_,R1⟩:=rb_row (ops:=prodO) rfl hf hp hN n (by omega) _ k (h.nx+1) (s.fresh.kp K0) (Heap.get_new _ _)
 have l1:h.nx+2≤h1.nx:=F1.nx
 have g1:h1.get h.nx=some (.row 72 z72 0 false):=(F1.get h.nx (by show h.nx < h.nx+1+1;omega) (by omega)).trans ((Heap.get_old _ _ (Nat.lt_succ_self _)).trans (Heap.get_new h.fresh _))
 have T1:=(K0.fr p).trans F1
 split at R1
 next t k' e=>
  obtain⟨x,r,l,rfl,N1,s1,wp⟩:=R1
  rw[e]
  obtain⟨H,eb,g,nx,wm,_⟩:=pd_ok h h1 p d n x r l g1 (by omega) e1
  exact res_ok (lo:=h.nx+2) eb s T1 (fun c hc hd=>g c hc (by omega)) (by omega) (by omega) N1 (Nat.le_refl _) s1 (by omega)
 next pos c e=>
  obtain⟨q,k',rfl,hq,gq,s1⟩:=R1
  rw[e]
  have hq':h.nx+2≤q:=hq
  obtain⟨H,eb,g,nx,_⟩:=pd_e h h1 p d q n g1 (by omega) e1
  exact res_err (lo:=h.nx+1) eb s T1 (fun c hc hd=>g c hc (by omega)) (by omega) (by omega) (by omega) gq s1
/-- What stands within signs: from behind the first sign. -/
def withP(ts:List Tk)(E:Nat)(f:PR):PR:=fun k=>
 match f k with
 | .err p c=>.err p c
 | .ok t k1=>
  match sg ts [[41]] k1 with
  |some _=>.ok t (k1+1)
  |none=>failR ts E k1
theorem within_law{f:PR}{d N:Nat}(hd:d≤40)(hf:LawA m p b ts E N 176 (d+1) f)(hN:3≤N):LawA m p b ts E (N+1) 251 d (withP ts E f):=by
 intro n h k hn s
 obtain⟨n,rfl⟩:∃ m,n=m+1:=⟨n - 1,by omega⟩
 have K0:Kp h.fresh (al h.fresh 72 z72):=(Kp.refl _).al 72 z72
 have hp:=s.lt
 obtain⟨v1,h1,e1,F1,_,R1⟩:=hf n _ k (by omega) (s.fresh.kp K0)
 have l1:h.nx < h1.nx:=F1.nx
 have g1:h1.get h.nx=some (.row 72 z72 0 false):=(F1.get h.nx (Nat.lt_succ_self _) (by omega)).trans (Heap.get_new h.fresh _)
 have T1:=(K0.fr p).trans F1
 unfold withP
 cases hu:f k with
 |err pos c=>
  rw[hu] at R1
  obtain⟨q,k',rfl,hq,gq,s1⟩:=R1
  have hq':h.nx+1≤q:=hq
  obtain⟨H,e,g,nx,_⟩:=wi_e h h1 p d q n g1 l1 (by omega) e1
  exact res_err (lo:=h.nx+1) e s T1 (fun c hc hd=>g c hc (by omega)) (by omega) (by omega) hq' gq s1
 |ok t k1=>
  rw[hu] at R1
  obtain⟨x,r,l,rfl,N1,s1,wp⟩:=R1
  have K1:Kp h1 (al (pt (al h1 72 z72) h1.nx 72 (ndL x r l)) 9 [.string ⟨#[41]⟩]):=(((Kp.refl h1).al _ _).pt _ _ (Nat.le_refl _) (Nat.lt_succ_self _)).al _ _
  have s1':=s1.kp K1
  obtain⟨v2,h2,e2,S2⟩:=sign_law (ops:=[[41]]) s1' n (by omega) (Heap.get_new _ _) (by decide)
  have gx:(al (pt (al h1 72 z72) h1.nx 72 (ndL x r l)) 9 [.string ⟨#[41]⟩]).get h1.nx=some (.row 72 (ndL x r l) 0 false):=(Heap.get_old _ _ (by show h1.nx < h1.nx+1;omega)).trans (Heap.get_put_same _ _ _ (Nat.lt_succ_self _))
  unfold SgTo at S2
  simp only
  cases hs:sg ts [[41]] k1 with
  |none=>
   rw[hs] at S2
   obtain⟨rfl,rfl⟩:=S2
   obtain⟨h3,e3,K3,n3,g3⟩:=fail_law s1' n (by omega)
   have K13:=K1.trans K3
   obtain⟨H,e,g,nx,wm,_⟩:=wi_no h h1 h3 p d _ n x r l ((K13.get _ l1).trans g1) (Nat.lt_of_lt_of_le l1 K13.nx) (by omega) e1 e2 e3
   exact res_err (lo:=h.nx+1) e s (T1.trans (K13.fr p)) (fun c hc hd=>g c hc (by omega)) (by omega) (by omega) (by show h.nx+1≤h1.nx+1+1;omega) g3 (s1.kp K13)
  |some sn=>
   rw[hs] at S2
   obtain⟨rfl,F2,n2,s2,w2,wp2⟩:=S2
   have n2':h2.nx=h1.nx+2:=n2
   have F12:=(K1.fr p).trans F2
   obtain⟨H,e,g,nx,wm,_⟩:=wi_ok h h1 h2 p d n sn x r l ((F12.get _ l1 (by omega)).trans g1) (by omega) ((F2.get _ (by show h1.nx < h1.nx+1+1;omega) (by omega)).trans gx) (by omega) e1 e2
   exact res_ok (lo:=h.nx+1) e s (T1.trans F12) (fun c hc hd=>g c hc (by omega)) (by omega) (by omega) (N1.fr (p:=p) F12 (by show p < h.nx+1;omega) (Nat.le_refl _) (Nat.le_refl _)) (by omega) s2 (by omega)
end
end Go.PanE
