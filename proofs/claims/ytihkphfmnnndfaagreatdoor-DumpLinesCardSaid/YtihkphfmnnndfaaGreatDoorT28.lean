/-
 Part 28 of the proof of Rows.DumpLinesCardSaid. No conditions.
-/
import Derived.Test.YtihkphfmnnndfaaGreatDoorT27
namespace Go.PanE
open Go.Proofs
def uz(h:Heap)(nm:Bsy)(lo B8 ab:Nat)(acc:List Tr):Prop:=
 (acc=[]∧h.get B8=some (.row 72 (ndL (zg 6 nm) none 0) 0 false))∨
 (acc≠[]∧∃ cs,h.get B8=some (.row 72 (ndL (zg 6 nm) (some ⟨ab,0,none⟩) acc.length) 0 false)∧lo≤ab∧h.get ab=some (.row 72 cs 10 false)∧ArgsC h (fun c=>lo≤c∧c≠ab) cs acc)
def zkg(ab:Nat):List Tr→Value
 |[]=>.slice none 0 0
 |t::l=>sv ab 0 (t::l).length (t::l).length
theorem zkf{h1:Heap}{nm:Bsy}{lo B8 ab:Nat}{acc:List Tr}(S:uz h1 nm lo B8 ab acc){x:Hd}{r:OA}{n:Nat}{t:Tr}(N:zc h1 (fun c=>lo≤c∧(acc≠[]→c≠ab)) x r n t)(hlo:lo≤h1.nx)(hl:acc.length≤100):
  ∃ h2 cs',zu En (al (pt (al h1 72 z72) h1.nx 72 (ndL x r n)) 72 (ndL x r n)) #[70,70] (zkg ab acc) (sv (h1.nx+1) 0 1 1)=some (sv (h1.nx+2) 0 (acc.length+1) (acc.length+1),h2)∧
   (∀ c,c < h1.nx→(acc≠[]→c≠ab)→h2.get c=h1.get c)∧h2.nx=h1.nx+3∧h2.wm≤h1.wm∧h2.get (h1.nx+2)=some (.row 72 cs' 10 false)∧ArgsC h2 (fun c=>lo≤c∧c≠h1.nx+2) cs' (acc++[t]):=by
 have KG:Kp h1 (al (pt (al h1 72 z72) h1.nx 72 (ndL x r n)) 72 (ndL x r n)):=(((Kp.refl h1).al _ _).pt _ _ (nL_ _) (nS _)).al _ _
 have gG:(al (pt (al h1 72 z72) h1.nx 72 (ndL x r n)) 72 (ndL x r n)).get (h1.nx+1)=some (.row 72 (ndL x r n) 0 false):=gN (h:=pt (al h1 72 z72) h1.nx 72 (ndL x r n))
 have nG:(al (pt (al h1 72 z72) h1.nx 72 (ndL x r n)) 72 (ndL x r n)).nx=h1.nx+2:=rfl
 generalize hG:al (pt (al h1 72 z72) h1.nx 72 (ndL x r n)) 72 (ndL x r n)=G at KG gG nG ⊢
 cases acc with
 |nil=>
  have ap:=vv (c:=1) zaE gG (o:=0) (n:=1) (xs:=ndL x r n) rfl rfl (by decide) (by decide)
  have g2:(G.alloc (.row 72 (ndL x r n) 10 false)).get (h1.nx+2)=some (.row 72 (ndL x r n) 10 false):=by rw[← nG];exact zb G _
  refine⟨G.alloc (.row 72 (ndL x r n) 10 false),ndL x r n,by rw[← nG];exact ap,fun c hc _=>(zm _ _ (by omega)).trans (KG.get c hc),by rw[zt,nG],KG.wm,g2,?_⟩
  show ArgsC _ _ _ [t]
  unfold ArgsC
  refine⟨x,r,n,[],by rw[List.append_nil],N.mono fun c o hc e=>⟨⟨hc.1,by have:=za e;omega⟩,(zm _ _ (by have:=za e;omega)).trans ((KG.get c (za e)).trans e)⟩,?_⟩
  unfold ArgsC;rfl
 |cons u l=>
  rcases S with⟨S,_⟩|⟨_,cs,S1,S2,S3,S4⟩
  ·cases S
  have hab:=za S3
  have ap:=qK (c:=1) (l:=(u::l).length) zaE ((KG.get ab hab).trans S3) (by rw[S4.length]) gG (o:=0) (n:=1) (xs:=ndL x r n) rfl rfl rfl (by decide) (by omega)
  have nk:(G.kill ab).nx=h1.nx+2:=by rw[jb,nG]
  have g2:((G.kill ab).alloc (.row 72 (cs++ndL x r n) 10 false)).get (h1.nx+2)=some (.row 72 (cs++ndL x r n) 10 false):=by rw[← nk];exact zb _ _
  have gk:∀ c,c < h1.nx→c≠ab→((G.kill ab).alloc (.row 72 (cs++ndL x r n) 10 false)).get c=h1.get c:=fun c hc hn=>(zm _ _ (by omega)).trans ((zU _ hn).trans (KG.get c hc))
  refine⟨(G.kill ab).alloc (.row 72 (cs++ndL x r n) 10 false),cs++ndL x r n,by rw[← nG];exact ap,fun c hc hn=>gk c hc (hn (by simp)),by rw[zt,nk],?_,g2,?_⟩
  ·rw[zl,vf];have:=KG.wm;omega
  ·refine ArgsC.snoc (N.mono fun c o hc e=>⟨⟨hc.1,by have:=za e;omega⟩,(gk c (za e) (hc.2 (by simp))).trans e⟩) (S4.mono fun c o hc e=>⟨⟨hc.1,by have:=za e;omega⟩,(gk c (za e) hc.2).trans e⟩)
theorem uz.fr{h g:Heap}{nm:Bsy}{lo B8 ab p:Nat}{acc:List Tr}(S:uz h nm lo B8 ab acc)(F:Fr h g p)(h8:B8≠p)(hp:p < lo):uz g nm lo B8 ab acc:=by
 rcases S with⟨e,S1⟩|⟨e,cs,S1,S2,S3,S4⟩
 ·exact .inl ⟨e,(F.get _ (za S1) h8).trans S1⟩
 ·exact .inr ⟨e,cs,(F.get _ (za S1) h8).trans S1,S2,(F.get _ (za S3) (by omega)).trans S3,S4.mono fun c o hc e=>⟨hc,(F.get c (za e) (by omega)).trans e⟩⟩
abbrev CS(p d B6 B8:Nat)(nm:Bsy):List (Nat×Value):=[(0,pv p 0),(1,iv (d:Int)),(2,.string ⟨⟨nm⟩⟩),(6,pv B6 0),(8,pv B8 0)]
abbrev CL(n:Nat):=Loops En (RD n) 79 18446744073709551616 (sub [1,1,1,1,1,0,0,0] (zp Tryz.f253))
section
variable {m:Int} {p b:Nat} {ts:List Tk} {E:Nat}
theorem zrZ{f:PR}{d N:Nat}(hd:d≤40)(hf:wT m p b ts E N 176 (d+1) f)(hN:3≤N)(n:Nat)(hn:N≤n)(nm:Bsy)(B6 B8 lo:Nat)(h68:B6 < B8)(hlo:B8 < lo)(hpB:p < B6):
  ∀ (i k:Nat) (acc:List Tr) (ab:Nat) (h:Heap),i+acc.length=10→lo≤h.nx→PSt m h p b ts E k→uz h nm lo B8 ab acc→h.get B6=some (.row 72 z72 0 false)→
   ∃ hL R,R≤i+1∧h.nx≤hL.nx∧(∀ c,c < B6→c≠p→hL.get c=h.get c)∧hL.wm≤h.wm∧
    match jQ ts E f nm i acc k with
    | .ok t k'=>∃ x r l,CL n (CS p d B6 B8 nm) h .ret [(6,pv B6 0),(7,.nilIface)] hL R∧hL.get B6=some (.row 72 (ndL x r l) 0 false)∧zc hL (fun c=>lo≤c) x r l t∧PSt m hL p b ts E k'
    | .err pos c=>(∃ q k',CL n (CS p d B6 B8 nm) h .ret [(6,pv B6 0),(7,.iface 242 (pv q 0))] hL R∧hL.get B6=some (.row 72 z72 0 false)∧lo≤q∧hL.get q=some (.row 245 [.int .i64 (pos:Int),.int .i64 (c:Int)] 0 false)∧PSt m hL p b ts E k')∨
      (∃ k',CL n (CS p d B6 B8 nm) h (.exit 0) [(0,pv p 0),(6,pv B6 0)] hL R∧hL.get B6=some (.row 72 z72 0 false)∧pos=place ts E k'∧c=13∧PSt m hL p b ts E k'):=by
 intro i
 induction i with
 |zero=>
  intro k acc ab h hi hnx s S g6
  rcases S with⟨e,S1⟩|⟨e,cs,S1,S2,S3,S4⟩
  ·subst e;simp at hi
  rw[show jQ ts E f nm 0 acc k=Res.err (place ts E k) 13 from rfl]
  refine⟨h,1,by omega,nL_ _,fun _ _ _=>rfl,nL_ _,.inr ⟨k,.out (zrY h p d B6 B8 ab acc.length n nm S1 (zE (b:=10) (by omega))),g6,rfl,rfl,s⟩⟩
 |succ i ih=>
  intro k acc ab h hi hnx s S g6
  have h6:=s.p6
  have hacc:acc.length≤9:=by omega
  have h8p:B8≠p:=by omega
  obtain⟨v1,h1,e1,F1,w1,R1⟩:=hf n h k hn s
  have S1:=S.fr F1 h8p (by omega)
  have l1:=F1.nx
  have h6l:=za g6
  have g61:=(F1.get B6 h6l (by omega)).trans g6
  have h8l:B8 < h.nx:=by omega
  have hdec:decide (((acc.length:Nat):Int) < 10)=true:=zw (b:=10) (by omega)
  simp only[jQ]
  cases hu:f k with
  |err pos c=>
   rw[hu] at R1
   obtain⟨q,k',rfl,hq,gq,s1⟩:=R1
   have hb:∃ H,wC En (RD n) 79 18446744073709551616 (sub [1,1,1,1,1,0,0,0] (zp Tryz.f253)) (CS p d B6 B8 nm) h .ret [(6,pv B6 0),(7,.iface 242 (pv q 0))] H∧(∀ c,c < h1.nx→c≠B6→H.get c=h1.get c)∧H.nx=h1.nx+1∧H.wm≤h1.wm∧H.wm≤B6∧H.get B6=some (.row 72 z72 0 false):=by
    rcases S with⟨e,S⟩|⟨e,cs,S,_⟩
    ·exact zxK h h1 p d B6 B8 q n nm (by omega) S g61 (by omega) e1
    ·exact zxJ h h1 p d B6 B8 ab acc.length q n nm (by omega) S g61 (by omega) hdec e1
   obtain⟨H,eb,g,nx,wm,_,w⟩:=hb
   refine⟨H,1,by omega,by omega,fun c hc hcp=>(g c (by omega) (by omega)).trans (F1.get c (by omega) hcp),by omega,.inl ⟨q,k',.ret eb,w,by omega,(g q (za gq) (by omega)).trans gq,s1.away g (by omega) g61 (by omega)⟩⟩
  |ok t k1=>
   rw[hu] at R1
   obtain⟨x,r,l,rfl,Nx,s1,wp⟩:=R1
   have hN1:zc h1 (fun c=>lo≤c∧(acc≠[]→c≠ab)) x r l t:=zc.mono (fun c o hc e=>⟨⟨by have:=hc.1;omega,fun hne=>by
    rcases S with⟨e',_⟩|⟨_,cs,_,_,S3,_⟩
    ·exact absurd e' hne
    ·have:=za S3;have:=hc.1;omega⟩,e⟩) Nx
   obtain⟨h2,cs',ap,g2,n2,w2,gb2,A2⟩:=zkf S1 hN1 (by omega) (by omega)
   have g8s:∃ r0 n0,h.get B8=some (.row 72 (ndL (zg 6 nm) r0 n0) 0 false)∧h1.get B8=some (.row 72 (ndL (zg 6 nm) r0 n0) 0 false):=by
    rcases S with⟨e,S⟩|⟨e,cs,S,_⟩
    ·exact⟨_,_,S,(F1.get _ h8l h8p).trans S⟩
    ·exact⟨_,_,S,(F1.get _ h8l h8p).trans S⟩
   have hab:acc≠[]→lo≤ab:=fun hne=>by
    rcases S with⟨e',_⟩|⟨_,cs,_,S2,_,_⟩
    ·exact absurd e' hne
    ·exact S2
   have g28:h2.get B8=h1.get B8:=g2 B8 (by omega) (fun hne=>by have:=hab hne;omega)
   have g26:h2.get B6=h1.get B6:=g2 B6 (by omega) (fun hne=>by have:=hab hne;omega)
   have s2:PSt m h2 p b ts E k1:=by
    rcases S1 with⟨e,_⟩|⟨e,cs,_,S2,S3,_⟩
    ·exact s1.keep (by omega) fun c hc=>g2 c hc (fun hne=>absurd e hne)
    ·exact s1.away (fun c hc hn=>g2 c hc fun _=>hn) (by omega) S3 (by omega)
   obtain⟨r0,n0,g80,g81⟩:=g8s
   have s2':PSt m (pt h2 B8 72 (ndL (zg 6 nm) (some ⟨h1.nx+2,0,none⟩) (acc.length+1))) p b ts E k1:=s2.away (fun c hc hn=>zf _ _ _ _ (by omega) hn) (nL_ _) (g28.trans g81) (by omega)
   have Kc:∀ z,Kp (pt h2 B8 72 (ndL (zg 6 nm) (some ⟨h1.nx+2,0,none⟩) (acc.length+1))) (al (pt h2 B8 72 (ndL (zg 6 nm) (some ⟨h1.nx+2,0,none⟩) (acc.length+1))) 9 z):=fun z=>(Kp.refl _).al _ _
   have gp8:(pt h2 B8 72 (ndL (zg 6 nm) (some ⟨h1.nx+2,0,none⟩) (acc.length+1))).get B8=some (.row 72 (ndL (zg 6 nm) (some ⟨h1.nx+2,0,none⟩) (acc.length+1)) 0 false):=gP (by omega)
   have gpo:∀ c,c≠B8→(pt h2 B8 72 (ndL (zg 6 nm) (some ⟨h1.nx+2,0,none⟩) (acc.length+1))).get c=h2.get c:=fun c hc=>zf _ _ _ _ (by omega) hc
   have Fh:∀ c,c < B6→c≠p→(pt h2 B8 72 (ndL (zg 6 nm) (some ⟨h1.nx+2,0,none⟩) (acc.length+1))).get c=h.get c:=fun c hc hcp=>(gpo c (by omega)).trans ((g2 c (by omega) (fun hne=>by have:=hab hne;omega)).trans (F1.get c (by omega) hcp))
   have wH:(pt h2 B8 72 (ndL (zg 6 nm) (some ⟨h1.nx+2,0,none⟩) (acc.length+1))).wm≤h.wm:=by rw[ze];omega
   have nP:(pt h2 B8 72 (ndL (zg 6 nm) (some ⟨h1.nx+2,0,none⟩) (acc.length+1))).nx=h2.nx:=rfl
   generalize hP2:pt h2 B8 72 (ndL (zg 6 nm) (some ⟨h1.nx+2,0,none⟩) (acc.length+1))=P2 at s2' Kc gp8 gpo Fh wH nP
   have g6P:P2.get B6=some (.row 72 z72 0 false):=(gpo B6 (by omega)).trans (g26.trans g61)
   have gbP:P2.get (h1.nx+2)=some (.row 72 cs' 10 false):=(gpo _ (by omega)).trans gb2
   have AP:ArgsC P2 (fun c=>lo≤c∧c≠h1.nx+2) cs' (acc++[t]):=A2.mono fun c o hc e=>⟨hc,(gpo c (by omega)).trans e⟩
   have lenA:(acc++[t]).length=acc.length+1:=by rw[lA];rfl
   obtain⟨v2,h3,e3,S3⟩:=qh (ops:=[[44]]) (s2'.kp (Kc [.string ⟨#[44]⟩])) n (by omega) (zb _ _) (by decide)
   unfold uW at S3
   simp only
   cases hs:sg ts [[44]] k1 with
   |some sn=>
    rw[hs] at S3
    obtain⟨rfl,F3,n3,s3,w3,_⟩:=S3
    have F23:Fr P2 h3 p:=((Kc [.string ⟨#[44]⟩]).fr p).trans F3
    have l3:=F23.nx
    have hb:wC En (RD n) 79 18446744073709551616 (sub [1,1,1,1,1,0,0,0] (zp Tryz.f253)) (CS p d B6 B8 nm) h .normal (CS p d B6 B8 nm) h3:=by
     subst hP2
     rcases S with⟨e,S⟩|⟨e,cs,S,_⟩
     ·subst e
      have S8:=(F1.get _ h8l h8p).trans S
      exact zuK h h1 h2 h3 p d B6 B8 n nm sn x r l (by omega) S S8 (g28.trans S8) (by omega) (by omega) e1 ap e3
     ·have S8:=(F1.get _ h8l h8p).trans S
      have:zkg ab acc=sv ab 0 acc.length acc.length:=by
       cases acc with
       |nil=>exact absurd rfl e
       |cons u l=>rfl
      rw[this] at ap
      exact zuJ h h1 h2 h3 p d B6 B8 ab acc.length n nm sn x r l (by omega) S S8 (g28.trans S8) (by omega) (by omega) hdec e1 ap e3
    have SA:uz h3 nm lo B8 (h1.nx+2) (acc++[t]):=by
     refine uz.fr (.inr ⟨by simp,cs',?_,by omega,gbP,AP⟩) F23 h8p (by omega)
     rw[lenA];exact gp8
    obtain⟨hL,R,hR,nL,gL,wL,RL⟩:=ih (k1+1) (acc++[t]) (h1.nx+2) h3 (by rw[lenA];omega) (by omega) s3 SA ((F23.get _ (by omega) (by omega)).trans g6P)
    refine⟨hL,R+1,by omega,by omega,fun c hc hcp=>(gL c hc hcp).trans ((F23.get c (by omega) hcp).trans (Fh c hc hcp)),?_,?_⟩
    ·have:(al P2 9 [.string ⟨#[44]⟩]).wm=P2.wm:=rfl
     omega
    ·simp only
     split at RL
     next t' k' e4=>
      obtain⟨x',r',l',L,a,c,d⟩:=RL
      exact⟨x',r',l',.on hb L,a,c,d⟩
     next pos c e4=>
      rcases RL with⟨q,k',L,a,c,d,f⟩|⟨k',L,a⟩
      ·exact .inl ⟨q,k',.on hb L,a,c,d,f⟩
      ·exact .inr ⟨k',.on hb L,a⟩
   |none=>
    rw[hs] at S3
    obtain⟨rfl,rfl⟩:=S3
    have K4:Kp P2 (al (al P2 9 [.string ⟨#[44]⟩]) 9 [.string ⟨#[41]⟩]):=(Kc [.string ⟨#[44]⟩]).al _ _
    obtain⟨v4,h4,e4,S4⟩:=qh (ops:=[[41]]) (s2'.kp K4) n (by omega) (zb _ _) (by decide)
    unfold uW at S4
    simp only
    cases hs4:sg ts [[41]] k1 with
    |some sn=>
     rw[hs4] at S4
     obtain⟨rfl,F4,n4,s4,w4,_⟩:=S4
     have F24:Fr P2 h4 p:=(K4.fr p).trans F4
     have l4:=F24.nx
     have g84:=(F24.get B8 (by omega) h8p).trans gp8
     have g64:=(F24.get B6 (by omega) (by omega)).trans g6P
     have hb:∃ H,wC En (RD n) 79 18446744073709551616 (sub [1,1,1,1,1,0,0,0] (zp Tryz.f253)) (CS p d B6 B8 nm) h .ret [(6,pv B6 0),(7,.nilIface)] H∧(∀ c,c < h4.nx→c≠B6→H.get c=h4.get c)∧H.nx=h4.nx∧H.wm≤h4.wm∧H.wm≤B6∧H.get B6=some (.row 72 (ndL (zg 6 nm) (some ⟨h1.nx+2,0,none⟩) (acc.length+1)) 0 false):=by
      subst hP2
      rcases S with⟨e,S⟩|⟨e,cs,S,_⟩
      ·subst e
       have S8:=(F1.get _ h8l h8p).trans S
       exact zuM h h1 h2 h4 p d B6 B8 n nm sn x r l (by omega) S S8 (g28.trans S8) (by omega) (by omega) g84 g64 (by omega) e1 ap e3 e4
      ·have S8:=(F1.get _ h8l h8p).trans S
       have:zkg ab acc=sv ab 0 acc.length acc.length:=by
        cases acc with
        |nil=>exact absurd rfl e
        |cons u l=>rfl
       rw[this] at ap
       exact zuL h h1 h2 h4 p d B6 B8 ab acc.length n nm sn x r l (by omega) S S8 (g28.trans S8) (by omega) (by omega) g84 g64 (by omega) hdec e1 ap e3 e4
     obtain⟨H,eb,g,nx,wm,_,w⟩:=hb
     refine⟨H,1,by omega,by omega,fun c hc hcp=>(g c (by omega) (by omega)).trans ((F24.get c (by omega) hcp).trans (Fh c hc hcp)),?_,?_⟩
     ·have:(al (al P2 9 [.string ⟨#[44]⟩]) 9 [.string ⟨#[41]⟩]).wm=P2.wm:=rfl
      omega
     ·refine⟨zg 6 nm,some ⟨h1.nx+2,0,none⟩,acc.length+1,.ret eb,w,?_,s4.away g (by omega) g64 (by omega)⟩
      have tr:∀ c o,lo≤c→P2.get c=some o→H.get c=some o:=fun c o hc e=>(g c (by have:=za e;omega) (by omega)).trans ((F24.get c (za e) (by omega)).trans e)
      have:=zc.mk (P:=fun c=>lo≤c) (ts:=acc++[t]) (cs:=cs') (zg 6 nm) (by show lo≤h1.nx+2;omega) (tr _ _ (by omega) gbP) (AP.mono fun c o hc e=>⟨hc.1,tr c o hc.1 e⟩)
      rw[lenA] at this
      exact this
    |none=>
     rw[hs4] at S4
     obtain⟨rfl,rfl⟩:=S4
     have hb:∃ H,wC En (RD n) 79 18446744073709551616 (sub [1,1,1,1,1,0,0,0] (zp Tryz.f253)) (CS p d B6 B8 nm) h (.exit 0) [(0,pv p 0),(6,pv B6 0)] H∧(∀ c,c < h2.nx→c≠B8→H.get c=h2.get c)∧H.nx=h2.nx+2∧H.wm≤h2.wm∧H.wm≤B8:=by
      subst hP2
      rcases S with⟨e,S⟩|⟨e,cs,S,_⟩
      ·subst e
       have S8:=(F1.get _ h8l h8p).trans S
       exact zuO h h1 h2 p d B6 B8 n nm x r l (by omega) S S8 (g28.trans S8) (by omega) (by omega) e1 ap e3 e4
      ·have S8:=(F1.get _ h8l h8p).trans S
       have:zkg ab acc=sv ab 0 acc.length acc.length:=by
        cases acc with
        |nil=>exact absurd rfl e
        |cons u l=>rfl
       rw[this] at ap
       exact zuN h h1 h2 p d B6 B8 ab acc.length n nm x r l (by omega) S S8 (g28.trans S8) (by omega) (by omega) hdec e1 ap e3 e4
     obtain⟨H,eb,g,nx,wm,_⟩:=hb
     have gHh:∀ c,c < B6→c≠p→H.get c=h.get c:=fun c hc hcp=>(g c (by omega) (by omega)).trans ((g2 c (by omega) (fun hne=>by have:=hab hne;omega)).trans (F1.get c (by omega) hcp))
     exact⟨H,1,by omega,by omega,gHh,by omega,.inr ⟨k1,.out eb,(g B6 (by omega) (by omega)).trans (g26.trans g61),rfl,rfl,s2.away g (by omega) (g28.trans g81) (by omega)⟩⟩
end
section
variable {m:Int} {p b:Nat} {ts:List Tk} {E:Nat}
theorem znI{k:Nat}(h:jC ts k=true):k+1 < ts.length:=by
 unfold jC at h
 cases hs:sg ts [[40]] (k+1) with
 |none=>rw[hs] at h;cases h
 |some s=>exact qR ts hs
theorem zpc{f:PR}{d N:Nat}(hd:d≤40)(hf:wT m p b ts E N 176 (d+1) f)(hN:3≤N)(n:Nat)(hn:N+1≤n)(h:Heap)(k:Nat)(x:Tk)(s:PSt m h p b ts E k)(ho:jC ts k=true):
  ∃ v h',RD n 253 [pv p 0,iv (d:Int),.string ⟨⟨x.t⟩⟩] h=some (v,h')∧zbL m h p b ts E (yf ts E f x k) v h':=by
 obtain⟨n,rfl⟩:=zs_ n
 have K0:Kp h.fh (al h.fh 72 z72):=(Kp.refl _).al 72 z72
 have hp:=s.lt
 have h6:=s.p6
 have hT:=s.tT
 have hk1:=znI ho
 have s0:=s.fh.kp K0
 have n0:(al h.fh 72 z72).nx=h.nx+1:=rfl
 have g0:(al h.fh 72 z72).get h.nx=some (.row 72 z72 0 false):=gN (h:=h.fh)
 unfold yf
 by_cases hl:8 < x.t.length
 ·rw[if_pos hl]
  obtain⟨h1,e1,K1,n1,g1⟩:=jz s0 n (by omega)
  obtain⟨H,e,g,nx,_⟩:=zr0 h h1 p d _ n ⟨⟨x.t⟩⟩ ((K1.get _ (nS _)).trans g0) (nU (nS _) K1.nx) (wj (a:=x.t.length) (b:=8) hl) e1
  exact zN (lo:=h.nx+1) e s ((K0.trans K1).fr p) (fun c hc hd=>g c hc (by omega)) (by omega) (by omega) (by omega) g1 (s0.kp K1)
 ·rw[if_neg hl]
  have hlen:=zR (a:=x.t.length) (b:=8) hl
  have s1:PSt m (pt (al h.fh 72 z72) p 274 [tsV b ts,iv ((k:Int)+2),iv E]) p b ts E (k+2):=s0.fr (Fr.put _ _ _ (by omega)) (zi _ _ _ (by omega)) (by omega)
  have F1:Fr h.fh (pt (al h.fh 72 z72) p 274 [tsV b ts,iv ((k:Int)+2),iv E]) p:=(K0.fr p).trans (Fr.put _ _ _ (by omega))
  have g1:(pt (al h.fh 72 z72) p 274 [tsV b ts,iv ((k:Int)+2),iv E]).get h.nx=some (.row 72 z72 0 false):=gO g0 (by omega) (by omega)
  have w1:(pt (al h.fh 72 z72) p 274 [tsV b ts,iv ((k:Int)+2),iv E]).wm≤p:=by rw[ze];omega
  have n1:(pt (al h.fh 72 z72) p 274 [tsV b ts,iv ((k:Int)+2),iv E]).nx=h.nx+1:=rfl
  have K1:Kp (pt (al h.fh 72 z72) p 274 [tsV b ts,iv ((k:Int)+2),iv E]) (al (pt (al (pt (al h.fh 72 z72) p 274 [tsV b ts,iv ((k:Int)+2),iv E]) 72 z72) (h.nx+1) 72 (ndL (zg 6 x.t) none 0)) 9 [.string ⟨#[41]⟩]):=
   (((Kp.refl _).al 72 z72).pt (b:=h.nx+1) 72 _ (nL_ _) (nS _)).al _ _
  have n3:(al (pt (al (pt (al h.fh 72 z72) p 274 [tsV b ts,iv ((k:Int)+2),iv E]) 72 z72) (h.nx+1) 72 (ndL (zg 6 x.t) none 0)) 9 [.string ⟨#[41]⟩]).nx=h.nx+3:=rfl
  have g8:(al (pt (al (pt (al h.fh 72 z72) p 274 [tsV b ts,iv ((k:Int)+2),iv E]) 72 z72) (h.nx+1) 72 (ndL (zg 6 x.t) none 0)) 9 [.string ⟨#[41]⟩]).get (h.nx+1)=some (.row 72 (ndL (zg 6 x.t) none 0) 0 false):=gA (gP (by show h.nx+1 < h.nx+1+1;omega))
  obtain⟨v2,h2,e2,S2⟩:=qh (ops:=[[41]]) (q:=h.nx+2) (s1.kp K1) n (by omega) (zb _ _) (by decide)
  unfold uW at S2
  cases hs:sg ts [[41]] (k+2) with
  |some sn=>
   rw[hs] at S2
   obtain⟨rfl,F2,n2,s2,w2,wp2⟩:=S2
   have n2':h2.nx=h.nx+3:=n2
   obtain⟨H,e,g,nx,wm,_⟩:=zuU h h2 p d k ts.length E n (tsR b ts) x.t sn s.pp (by omega) hp ((F2.get _ (by omega) (by omega)).trans ((K1.get _ (by omega)).trans g1)) (by omega) ((F2.get _ (by omega) (by omega)).trans g8) hlen e2
   exact vo (lo:=h.nx+1) (x:=zg 6 x.t) (r:=none) (l:=0) e s ((F1.trans (K1.fr p)).trans F2) (fun c hc hd=>g c hc (by omega)) (by omega) (by omega) (zc.leaf _ _ _) s2 (by omega)
  |none=>
   rw[hs] at S2
   obtain⟨rfl,rfl⟩:=S2
   obtain⟨hL,R,hR,nL,gL,wL,RL⟩:=zrZ hd hf hN n (by omega) x.t h.nx (h.nx+1) (h.nx+2) (by omega) (by omega) hp 10 (k+2) [] 0 _ rfl (by rw[n3];omega) (s1.kp K1) (.inl ⟨rfl,g8⟩) ((K1.get _ (by omega)).trans g1)
   have FL:Fr h.fh hL p:=⟨by show h.nx≤hL.nx;omega,fun c hc hcp=>by
    have hc':c < h.nx:=hc
    exact(gL c hc hcp).trans ((K1.get c (by omega)).trans (F1.get c hc hcp))⟩
   have hwL:hL.wm≤p:=nT wL (nT K1.wm w1)
   simp only
   split at RL
   next t k' e4=>
    obtain⟨y,r,l,L,a,c,sL⟩:=RL
    rw[e4]
    have eb:=zuT h hL p d k ts.length E n (tsR b ts) x.t y r l s.pp (by omega) hp a hlen e2 (L.fact2 (by omega) (by kernel_rfl))
    exact vo (lo:=h.nx) eb s FL (fun _ _ _=>rfl) (nL_ _) (nL_ _) (c.mono fun c o hc e=>⟨⟨by omega,za e⟩,e⟩) sL hwL
   next pos c e4=>
    rw[e4]
    rcases RL with⟨q,k',L,a,c1,d1,sL⟩|⟨k',L,a,rfl,rfl,sL⟩
    ·have eb:=zxM h hL p d k ts.length E q n (tsR b ts) x.t s.pp (by omega) hp a hlen e2 (L.fact2 (by omega) (by kernel_rfl))
     exact zN (lo:=h.nx) eb s FL (fun _ _ _=>rfl) (nL_ _) (nL_ _) (by omega) d1 sL
    ·obtain⟨h4,e5,K5,n5,g5⟩:=jz sL n (by omega)
     obtain⟨H,eb,g,nx,_⟩:=zxN h h4 hL p d k ts.length E _ n (tsR b ts) x.t s.pp (by omega) hp ((K5.get _ (za a)).trans a) (nU (za a) K5.nx) hlen e2 (L.fact2 (by omega) (by kernel_rfl)) e5
     exact zN (lo:=h.nx+1) eb s (FL.trans (K5.fr p)) (fun c hc hd=>g c hc (by omega)) (by omega) (by omega) (by omega) g5 (sL.kp K5)
end
theorem zcq{h g:Heap}{p:Nat}(a:Fr h g p):Fr h.fh g p:=⟨a.nx,a.get⟩
section
variable {m:Int} {p b:Nat} {ts:List Tk} {E:Nat} {A:Bsy→Option (Nat×Nat)} {N0:Nat}
theorem zuc{a:Bsy}{k:Nat}{s:Bsy}(h:sg ts [a] k=some s):s=a:=by
 unfold sg at h
 split at h
 ·split at h
  next hc=>simp only[sJ] at h;rw[← h];simpa using hc.2
  ·cases h
 ·cases h
theorem znX(hA:zdv m A N0)(hlen:∀ x∈ts,x.t.length≤4000){f:PR}{d N:Nat}(hd:d≤40)(hf:wT m p b ts E N 176 (d+1) f)(hN:3≤N)(hN0:N0+4≤N)(n:Nat)(hn:N+2≤n)(h:Heap)(k:Nat)(x:Tk)(s:PSt m h p b ts E k)(hx:ts[k]? =some x)(hx3:x.k=3):
  ∃ v h',RD n 250 [pv p 0,iv (d:Int),.string ⟨⟨x.t⟩⟩] h=some (v,h')∧zbL m h p b ts E (qS ts E A f x k) v h':=by
 obtain⟨n,rfl⟩:=zs_ n
 have K0:Kp h.fh (al h.fh 72 z72):=(Kp.refl _).al 72 z72
 have hp:=s.lt
 have h6:=s.p6
 have hT:=s.tT
 have hk:k < ts.length:=(List.getElem?_eq_some_iff.1 hx).1
 have s0:=s.fh.kp K0
 have n0:(al h.fh 72 z72).nx=h.nx+1:=rfl
 have g0:(al h.fh 72 z72).get h.nx=some (.row 72 z72 0 false):=gN (h:=h.fh)
 have eo:=zfe s0 n (by omega)
 unfold qS
 cases ho:jC ts k with
 |true=>
  rw[ho] at eo
  obtain⟨v1,h1,e1,F1,_,R1⟩:=zpc hd hf hN n (by omega) _ k x s0 ho
  have l1:=F1.nx
  have g1:=(F1.get h.nx (by omega) (by omega)).trans g0
  have T1:=(K0.fr p).trans F1
  simp only[if_true]
  split at R1
  next t k' e=>
   obtain⟨y,r,l,rfl,N1,s1,wp⟩:=R1
   obtain⟨H,eb,g,nx,wm,_⟩:=zAr h h1 p d n x.t y r l g1 (by omega) eo e1
   rw[e]
   exact qY (lo:=h.nx+1) eb s T1 (fun c hc hd=>g c hc (by omega)) (by omega) (by omega) N1 (nL_ _) s1 (by omega)
  next pos c e=>
   obtain⟨q,k',rfl,hq,gq,s1⟩:=R1
   obtain⟨H,eb,g,nx,_⟩:=zwT h h1 p d q n x.t g1 (by omega) eo e1
   rw[e]
   exact zN (lo:=h.nx+1) eb s T1 (fun c hc hd=>g c hc (by omega)) (by omega) (by omega) hq gq s1
 |false=>
  rw[ho] at eo
  simp only[Bool.false_eq_true,if_false]
  by_cases ht:x.t=[84,82,85,69]
  ·rw[if_pos ht]
   obtain⟨H,eb,g,nx,wm,wp,w⟩:=zAl h p d k ts.length E n (tsR b ts) x.t s.pp (by omega) hp eo (by rw[ht];rfl)
   have s1:PSt m (pt h p 274 [tsV b ts,iv ((k:Int)+1),iv E]) p b ts E (k+1):=s.fr (Fr.put _ _ _ (by omega)) (zi _ _ _ (by omega)) (by omega)
   refine vo (x:=zz 1 1 []) (r:=none) (l:=0) (lo:=h.nx) eb s (hk:=pt h p 274 [tsV b ts,iv ((k:Int)+1),iv E]) (zcq (Fr.put h p _ hp)) (fun c hc hd=>?_) (by show h.nx≤H.nx;omega) (nL_ _) (zc.leaf _ _ _) s1 wp
   have hc':c < h.nx:=hc
   by_cases hcp:c=p
   ·subst hcp;exact w.trans (zi _ _ _ hp).symm
   ·exact(g c hc' hcp).trans (zf _ _ _ _ hp hcp).symm
  ·rw[if_neg ht]
   have e1:((⟨⟨x.t⟩⟩:BA).data.toList==(⟨#[84,82,85,69]⟩:BA).data.toList)=false:=by have:=zZ x.t [84,82,85,69];rw[dF ht] at this;exact this
   by_cases hf':x.t=[70,65,76,83,69]
   ·rw[if_pos hf']
    obtain⟨H,eb,g,nx,wm,wp,w⟩:=zAp h p d k ts.length E n (tsR b ts) x.t s.pp (by omega) hp eo e1 (by rw[hf'];rfl)
    have s1:PSt m (pt h p 274 [tsV b ts,iv ((k:Int)+1),iv E]) p b ts E (k+1):=s.fr (Fr.put _ _ _ (by omega)) (zi _ _ _ (by omega)) (by omega)
    refine vo (x:=zz 1 0 []) (r:=none) (l:=0) (lo:=h.nx) eb s (hk:=pt h p 274 [tsV b ts,iv ((k:Int)+1),iv E]) (zcq (Fr.put h p _ hp)) (fun c hc hd=>?_) (by show h.nx≤H.nx;omega) (nL_ _) (zc.leaf _ _ _) s1 wp
    have hc':c < h.nx:=hc
    by_cases hcp:c=p
    ·subst hcp;exact w.trans (zi _ _ _ hp).symm
    ·exact(g c hc' hcp).trans (zf _ _ _ _ hp hcp).symm
   ·rw[if_neg hf']
    have e2:((⟨⟨x.t⟩⟩:BA).data.toList==(⟨#[70,65,76,83,69]⟩:BA).data.toList)=false:=by have:=zZ x.t [70,65,76,83,69];rw[dF hf'] at this;exact this
    have hcA:jP ts A k=A x.t:=by unfold jP;rw[hx];simp[ho,hx3]
    obtain⟨v1,h1,e3,F1,_,R1⟩:=zhk hA hlen n (by omega) _ k s0
    have l1:=F1.nx
    have g1:=(F1.get h.nx (by omega) (by omega)).trans g0
    have T1:=(K0.fr p).trans F1
    rw[hcA] at R1
    cases hAx:A x.t with
    |none=>
     rw[hAx] at R1
     obtain⟨q,rfl,hq,gq,s1⟩:=R1
     obtain⟨H,eb,g,nx,_⟩:=zAq h h1 p d q n x.t 0 0 g1 (by omega) eo e1 e2 e3
     exact zN (lo:=h.nx+1) eb s T1 (fun c hc hd=>g c hc (by omega)) (by omega) (by omega) hq gq s1
    |some v=>
     obtain⟨a,c⟩:=v
     rw[hAx] at R1
     obtain⟨rfl,s1,wp⟩:=R1
     have K1:Kp h1 (al (pt (al h1 29 [iv 0,iv 0]) h1.nx 29 [iv (a:Int),iv (c:Int)]) 9 [.string ⟨#[58]⟩]):=(((Kp.refl h1).al _ _).pt _ _ (nL_ _) (nS _)).al _ _
     have ga:(al (pt (al h1 29 [iv 0,iv 0]) h1.nx 29 [iv (a:Int),iv (c:Int)]) 9 [.string ⟨#[58]⟩]).get h1.nx=some (.row 29 [iv (a:Int),iv (c:Int)] 0 false):=gA (gP (nS _))
     obtain⟨v2,h2,e4,S2⟩:=qh (ops:=[[58]]) (s1.kp K1) n (by omega) (zb _ _) (by decide)
     unfold uW at S2
     simp only
     cases hs:sg ts [[58]] (k+1) with
     |none=>
      rw[hs] at S2
      obtain⟨rfl,rfl⟩:=S2
      obtain⟨H,eb,g,nx,wm,_⟩:=zAm h h1 p d n x.t a c g1 (by omega) eo e1 e2 e3 e4
      exact vo (x:=zF 2 a c 0 0) (r:=none) (l:=0) (lo:=h.nx+1) eb s T1 (fun c hc hd=>g c hc (by omega)) (by omega) (by omega) (zc.leaf _ _ _) s1 (by omega)
     |some sn=>
      rw[hs] at S2
      obtain⟨rfl,F2,n2,s2,w2,wp2⟩:=S2
      have n2':h2.nx=h1.nx+2:=n2
      obtain⟨v3,h3,e5,F3,w3,R3⟩:=zhk hA hlen n (by omega) h2 (k+1+1) s2
      have l3:=F3.nx
      have F13:Fr h1 h3 p:=((K1.fr p).trans F2).trans F3
      have g3:h3.get h.nx=some (.row 72 z72 0 false):=(F13.get _ (by omega) (by omega)).trans g1
      have ga3:h3.get h1.nx=some (.row 29 [iv (a:Int),iv (c:Int)] 0 false):=(F3.get _ (by omega) (by omega)).trans ((F2.get _ (by show h1.nx < h1.nx+1+1;omega) (by omega)).trans ga)
      have T3:=T1.trans F13
      simp only
      cases hc2:jP ts A (k+1+1) with
      |none=>
       rw[hc2] at R3
       obtain⟨q,rfl,hq,gq,s3⟩:=R3
       obtain⟨H,eb,g,nx,_⟩:=zwS h h1 h2 h3 p d q n x.t sn a c 0 0 g3 (by omega) eo e1 e2 e3 e4 e5
       exact zN (lo:=h.nx+1) eb s T3 (fun c hc hd=>g c hc (by omega)) (by omega) (by omega) (by omega) gq s3
      |some v=>
       obtain⟨u,w⟩:=v
       rw[hc2] at R3
       obtain⟨rfl,s3,wp3⟩:=R3
       have hu:1≤u∧u≤1000∧1≤w∧w≤50:=by
        unfold jP at hc2
        split at hc2
        ·split at hc2
         ·exact hA.1 _ _ _ hc2
         ·cases hc2
        ·cases hc2
       have em:=zn7 (hA.1 _ _ _ hAx) hu (pt (al h3 29 [iv 0,iv 0]) h3.nx 29 [iv (u:Int),iv (w:Int)]) n (by omega)
       obtain⟨H,eb,g,nx,wm,_⟩:=zAo h h1 h2 h3 p d n x.t sn a c u w _ _ _ _ g3 (by omega) ga3 (by omega) eo e1 e2 e3 e4 e5 em
       exact vo (x:=zF 3 ((min a u:Nat):Int) ((min c w:Nat):Int) ((max a u:Nat):Int) ((max c w:Nat):Int)) (r:=none) (l:=0) (lo:=h.nx+1) eb s T3 (fun c hc hd=>g c hc (by omega)) (by omega) (by omega) (zc.leaf _ _ _) s3 (by omega)
end
section
variable {m:Int} {p b:Nat} {ts:List Tk} {E:Nat} {A:Bsy→Option (Nat×Nat)} {N0:Nat}
theorem eqK{x k:Nat}(h:x=k):((x:Int)==(k:Int))=true:=by rw[eqN];exact dT h
theorem neK{x k:Nat}(h:x≠k):((x:Int)==(k:Int))=false:=by rw[eqN];exact dF h
theorem zhU{h:Heap}{k:Nat}(x:Hd){X:Option (Value×Heap)}{H:Heap}(e:X=some (zy h (.tuple #[ndV x none 0,.nilIface]) H))(s:PSt m h p b ts E k)(hk:k+1≤ts.length)
  (g:∀ c,c < h.nx→c≠p→H.get c=h.get c) (nH:h.nx≤H.nx) (wp:H.wm≤p) (w:H.get p=some (.row 274 [tsV b ts,iv ((k:Int)+1),iv E] 0 false)):
  ∃ v h',X=some (v,h')∧zbL m h p b ts E (.ok (.node x []) (k+1)) v h':=by
 have hp:=s.lt
 have s1:PSt m (pt h p 274 [tsV b ts,iv ((k:Int)+1),iv E]) p b ts E (k+1):=s.fr (Fr.put _ _ _ (by omega)) (zi _ _ _ (by omega)) hk
 refine vo (x:=x) (r:=none) (l:=0) (lo:=h.nx) e s (hk:=pt h p 274 [tsV b ts,iv ((k:Int)+1),iv E]) (zcq (Fr.put h p _ hp)) (fun c hc hd=>?_) nH (nL_ _) (zc.leaf _ _ _) s1 wp
 have hc':c < h.nx:=hc
 by_cases hcp:c=p
 ·subst hcp;exact w.trans (zi _ _ _ hp).symm
 ·exact(g c hc' hcp).trans (zf _ _ _ _ hp hcp).symm
theorem znx(hA:zdv m A N0)(hlen:∀ x∈ts,x.t.length≤4000){f:PR}{d N:Nat}(hd:d≤40)(hf:wT m p b ts E N 176 (d+1) f)(hN:3≤N)(hN0:N0+4≤N):wT m p b ts E (N+3) 248 d (qz ts E A f):=by
 intro n h k hn s
 obtain⟨n,rfl⟩:=zs_ n
 have K0:Kp h.fh (al h.fh 72 z72):=(Kp.refl _).al 72 z72
 have hp:=s.lt
 have hT:=s.tT
 have g0:(al h.fh 72 z72).get h.nx=some (.row 72 z72 0 false):=gN (h:=h.fh)
 unfold qz
 by_cases hk:k < ts.length
 ·obtain⟨x,hx⟩:=s.get hk
  rw[hx]
  simp only
  have hbl:=za (s.some_b hk)
  have e0:((k:Int)==(ts.length:Int))=false:=zcK (by omega)
  have KR:Kp h.fh (zd 1 (al h.fh 72 z72)):=⟨by rw[zK];show h.nx≤h.nx+1+1;omega,fun c hc=>(wJ 1 _ (Nat.lt_succ_of_lt hc)).trans (K0.get c hc),by rw[zJ];exact K0.wm⟩
  have nR:(zd 1 (al h.fh 72 z72)).nx=h.nx+2:=by rw[zK];rfl
  have KZ:=(KR.pt (b:=h.nx+1) 199 [iv 0,iv 0,.string ⟨#[]⟩,iv 0] (by show h.nx≤h.nx+1;omega) (by omega)).pt (b:=h.nx+1) 199 [iv (x.k:Int),iv (x.n:Int),.string ⟨⟨x.t⟩⟩,iv (x.at_:Int)] (by show h.nx≤h.nx+1;omega) (by show h.nx+1 < (zd 1 (al h.fh 72 z72)).nx;omega)
  have nZ:(pt (pt (zd 1 (al h.fh 72 z72)) (h.nx+1) 199 [iv 0,iv 0,.string ⟨#[]⟩,iv 0]) (h.nx+1) 199 [iv (x.k:Int),iv (x.n:Int),.string ⟨⟨x.t⟩⟩,iv (x.at_:Int)]).nx=h.nx+2:=nR
  have gZ:(pt (pt (zd 1 (al h.fh 72 z72)) (h.nx+1) 199 [iv 0,iv 0,.string ⟨#[]⟩,iv 0]) (h.nx+1) 199 [iv (x.k:Int),iv (x.n:Int),.string ⟨⟨x.t⟩⟩,iv (x.at_:Int)]).get h.nx=some (.row 72 z72 0 false):=gO (gO (gR g0) (by omega) (by omega)) (by show h.nx+1 < (zd 1 (al h.fh 72 z72)).nx;omega) (by omega)
  have sZ:=s.fh.kp KZ
  by_cases h1:x.k=1
  ·rw[if_pos h1]
   obtain⟨H,e,g,nx,wm,wp,w⟩:=ztC h p b k ts.length E d ts x n (s.pp' hk) (s.some_b hk) hx hk (by omega) hp hbl e0 (eqK (k:=1) h1)
   exact zhU (zz 2 x.n []) e s (by omega) g (by omega) wp (by rw[w,jg hk])
  rw[if_neg h1]
  have e1:=neK (k:=1) h1
  by_cases h2:x.k=2
  ·rw[if_pos h2]
   have e2:=eqK (k:=2) h2
   have eof:=zgF x.t (pt (pt (zd 1 (al h.fh 72 z72)) (h.nx+1) 199 [iv 0,iv 0,.string ⟨#[]⟩,iv 0]) (h.nx+1) 199 [iv (x.k:Int),iv (x.n:Int),.string ⟨⟨x.t⟩⟩,iv (x.at_:Int)]) n (by omega)
   by_cases hl:x.t.length≤200
   ·rw[if_pos hl] at eof ⊢
    obtain⟨H,e,g,nx,wm,wp,w⟩:=ztB h p b k ts.length E d ts x n (s.pp' hk) (s.some_b hk) hx hk (by omega) hp hbl e0 e1 e2 eof
    exact zhU (zz 3 0 x.t) e s (by omega) g (by omega) wp (by rw[w,jg hk])
   ·rw[if_neg hl] at eof ⊢
    have K2:=(KZ.al 27 [iv 0,iv 0,.string ⟨#[]⟩]).pt (b:=h.nx+2) 27 [iv 4,iv 7,.string ⟨#[]⟩] (by show h.nx≤h.nx+2;omega) (by show h.nx+2 < _+1;rw[nZ];omega)
    obtain⟨h3,e3,K3,n3,g3⟩:=jz (s.fh.kp K2) n (by omega)
    have K23:=K2.trans K3
    have g30:h3.get h.nx=some (.row 72 z72 0 false):=(K3.get _ (by show h.nx < _+1;rw[nZ];omega)).trans (gO (gA gZ) (by show h.nx+2 < _+1;rw[nZ];omega) (by omega))
    have n2:h.nx+3≤h3.nx:=by
     have:h3.nx=(al (pt (pt (zd 1 (al h.fh 72 z72)) (h.nx+1) 199 [iv 0,iv 0,.string ⟨#[]⟩,iv 0]) (h.nx+1) 199 [iv (x.k:Int),iv (x.n:Int),.string ⟨⟨x.t⟩⟩,iv (x.at_:Int)]) 27 [iv 0,iv 0,.string ⟨#[]⟩]).nx+1:=n3
     rw[this,zt,nZ];omega
    have nq:(pt (al (pt (pt (zd 1 (al h.fh 72 z72)) (h.nx+1) 199 [iv 0,iv 0,.string ⟨#[]⟩,iv 0]) (h.nx+1) 199 [iv (x.k:Int),iv (x.n:Int),.string ⟨⟨x.t⟩⟩,iv (x.at_:Int)]) 27 [iv 0,iv 0,.string ⟨#[]⟩]) (h.nx+2) 27 [iv 4,iv 7,.string ⟨#[]⟩]).nx=h.nx+3:=by rw[yh,zt,nZ]
    obtain⟨H,e,g,nx,_⟩:=zqH h h3 p b k ts.length E d _ ts x n (s.pp' hk) (s.some_b hk) hx hk (by omega) hp hbl g30 (by omega) e0 e1 e2 eof e3
    exact zN (lo:=h.nx+1) e s (K23.fr p) (fun c hc hd=>g c hc (by omega)) (by omega) (by omega) (by omega) g3 (s.fh.kp K23)
  rw[if_neg h2]
  have e2:=neK (k:=2) h2
  by_cases h3:x.k=3
  ·rw[if_pos h3]
   have e3:=eqK (k:=3) h3
   obtain⟨v1,h1',en,F1,_,R1⟩:=znX hA hlen hd hf hN hN0 n (by omega) _ k x sZ hx h3
   have l1:=F1.nx
   have g1:=(F1.get h.nx (by omega) (by omega)).trans gZ
   have T1:=(KZ.fr p).trans F1
   split at R1
   next t k' e=>
    obtain⟨y,r,l,rfl,N1,s1,wp⟩:=R1
    obtain⟨H,eb,g,nx,wm,_⟩:=zwG h h1' p b k ts.length E d ts x n y r l (s.pp' hk) (s.some_b hk) hx hk (by omega) hp hbl g1 (by omega) e0 e1 e2 e3 en
    rw[e]
    exact qY (lo:=h.nx+1) eb s T1 (fun c hc hd=>g c hc (by omega)) (by omega) (by omega) (N1.mono (by omega) (nL_ _) fun _ _ _ _ e=>e) (nL_ _) s1 (by omega)
   next pos c e=>
    obtain⟨q,k',rfl,hq,gq,s1⟩:=R1
    obtain⟨H,eb,g,nx,_⟩:=zwF h h1' p b k ts.length E d q ts x n (s.pp' hk) (s.some_b hk) hx hk (by omega) hp hbl g1 (by omega) e0 e1 e2 e3 en
    rw[e]
    exact zN (lo:=h.nx+1) eb s T1 (fun c hc hd=>g c hc (by omega)) (by omega) (by omega) (by omega) gq s1
  rw[if_neg h3]
  have e3:=neK (k:=3) h3
  by_cases h4:x.k=4
  ·rw[if_pos h4]
   have e4:=eqK (k:=4) h4
   have KY:=KZ.al 9 [.string ⟨#[40]⟩]
   have gY:=gA (t:=9) (cs:=[.string ⟨#[40]⟩]) gZ
   have sY:=s.fh.kp KY
   have nY:(al (pt (pt (zd 1 (al h.fh 72 z72)) (h.nx+1) 199 [iv 0,iv 0,.string ⟨#[]⟩,iv 0]) (h.nx+1) 199 [iv (x.k:Int),iv (x.n:Int),.string ⟨⟨x.t⟩⟩,iv (x.at_:Int)]) 9 [.string ⟨#[40]⟩]).nx=h.nx+3:=by rw[zt,nZ]
   have gq:(al (pt (pt (zd 1 (al h.fh 72 z72)) (h.nx+1) 199 [iv 0,iv 0,.string ⟨#[]⟩,iv 0]) (h.nx+1) 199 [iv (x.k:Int),iv (x.n:Int),.string ⟨⟨x.t⟩⟩,iv (x.at_:Int)]) 9 [.string ⟨#[40]⟩]).get (h.nx+2)=some (.row 9 [.string ⟨#[40]⟩] 0 false):=by rw[← nZ];exact gN
   obtain⟨v1,h5,e5,S5⟩:=qh (ops:=[[40]]) sY n (by omega) gq (by decide)
   unfold uW at S5
   by_cases ht:x.t=[40]
   ·rw[if_pos ht]
    have hs:sg ts [[40]] k=some x.t:=by unfold sg;rw[hx];simp[h4,ht]
    rw[hs] at S5
    obtain⟨rfl,F5,n5,s5,w5,wp5⟩:=S5
    have n5':h5.nx=h.nx+3:=n5.trans nY
    obtain⟨v6,h6,e6,F6,_,R6⟩:=ziV hd hf hN n h5 (k+1) (by omega) s5
    have l6:=F6.nx
    have g6:h6.get h.nx=some (.row 72 z72 0 false):=(F6.get _ (by omega) (by omega)).trans ((F5.get _ (by omega) (by omega)).trans gY)
    have T6:=((KY.fr p).trans F5).trans F6
    change ∃ v h',RD (n+1) 248 [pv p 0,iv (d:Int)] h=some (v,h')∧zbL m h p b ts E (ziW ts E f (k+1)) v h'
    split at R6
    next t k' e=>
     obtain⟨y,r,l,rfl,N1,s1,wp⟩:=R6
     obtain⟨H,eb,g,nx,wm,_⟩:=zwH h h5 h6 p b k ts.length E d x.t ts x n y r l (s.pp' hk) (s.some_b hk) hx hk (by omega) hp hbl g6 (by omega) e0 e1 e2 e3 e4 e5 e6
     rw[e]
     exact qY (lo:=h.nx+1) eb s T6 (fun c hc hd=>g c hc (by omega)) (by omega) (by omega) (N1.mono (by omega) (nL_ _) fun _ _ _ _ e=>e) (nL_ _) s1 (by omega)
    next pos c e=>
     obtain⟨q,k',rfl,hq,gq,s1⟩:=R6
     obtain⟨H,eb,g,nx,_⟩:=zwI h h5 h6 p b k ts.length E d q x.t ts x n (s.pp' hk) (s.some_b hk) hx hk (by omega) hp hbl g6 (by omega) e0 e1 e2 e3 e4 e5 e6
     rw[e]
     exact zN (lo:=h.nx+1) eb s T6 (fun c hc hd=>g c hc (by omega)) (by omega) (by omega) (by omega) gq s1
   ·rw[if_neg ht]
    have hs:sg ts [[40]] k=none:=by unfold sg;rw[hx];simp[ht]
    rw[hs] at S5
    obtain⟨rfl,rfl⟩:=S5
    obtain⟨h7,e7,K7,n7,g7⟩:=jz sY n (by omega)
    obtain⟨H,e,g,nx,_⟩:=zwE h h7 p b k ts.length E d _ ts x n (s.pp' hk) (s.some_b hk) hx hk (by omega) hp hbl ((K7.get _ (by omega)).trans gY) (by omega) e0 e1 e2 e3 e4 e5 e7
    exact zN (lo:=h.nx+1) e s ((KY.trans K7).fr p) (fun c hc hd=>g c hc (by omega)) (by omega) (by omega) (by omega) g7 (sY.kp K7)
  ·rw[if_neg h4]
   have e4:=neK (k:=4) h4
   obtain⟨h7,e7,K7,n7,g7⟩:=jz sZ n (by omega)
   obtain⟨H,e,g,nx,_⟩:=zwD h h7 p b k ts.length E d _ ts x n (s.pp' hk) (s.some_b hk) hx hk (by omega) hp hbl ((K7.get _ (by omega)).trans gZ) (by omega) e0 e1 e2 e3 e4 e7
   exact zN (lo:=h.nx+1) e s ((KZ.trans K7).fr p) (fun c hc hd=>g c hc (by omega)) (by omega) (by omega) (by omega) g7 (sZ.kp K7)
 ·have hkT:=s.kT
  rw[List.getElem?_eq_none (by omega)]
  simp only
  have s0:=s.fh.kp K0
  obtain⟨h7,e7,K7,n7,g7⟩:=jz s0 n (by omega)
  obtain⟨H,e,g,nx,_⟩:=ztD h h7 p k ts.length E d _ (tsR b ts) n s.pp hp ((K7.get _ (nS _)).trans g0) (nU (nS _) K7.nx) (zl0 (by omega)) e7
  exact zN (lo:=h.nx+1) e s ((K0.trans K7).fr p) (fun c hc hd=>g c hc (by omega)) (by omega) (by omega) (nL_ _) g7 (s0.kp K7)
theorem wT.mono{N M:Nat}{f:FuncId}{d:Nat}{R:PR}(L:wT m p b ts E N f d R)(h:N≤M):wT m p b ts E M f d R:=fun n g k hn s=>L n g k (by omega) s
theorem zrI(d:Nat)(hd:40 < d):wT m p b ts E 3 176 d (fun _=>.err 0 14):=by
 intro n h k hn s
 obtain⟨n,rfl⟩:=zs_ n
 have K0:Kp h.fh (al h.fh 72 z72):=(Kp.refl _).al 72 z72
 have g0:(al h.fh 72 z72).get h.nx=some (.row 72 z72 0 false):=gN (h:=h.fh)
 have s0:=s.fh.kp K0
 obtain⟨h1,e1,K1,n1,g1⟩:=zdu (al h.fh 72 z72) d n (by omega) hd
 have ga:=(K1.get _ (nS _)).trans g0
 have la:=nU (nS h.nx) K1.nx
 obtain⟨H,e,g,nx,_⟩:=zrz h h1 p d _ n ga la e1
 exact zN (lo:=h.nx+1) e s ((K0.trans K1).fr p) (fun c hc hd=>g c hc (by omega)) (by omega) (by omega) (nL_ _) g1 (s0.kp K1)
theorem zrH(d:Nat)(hd:40 < d):wT m p b ts E 3 231 d (fun _=>.err 0 14):=by
 intro n h k hn s
 obtain⟨n,rfl⟩:=zs_ n
 have K0:Kp h.fh (al h.fh 72 z72):=(Kp.refl _).al 72 z72
 have g0:(al h.fh 72 z72).get h.nx=some (.row 72 z72 0 false):=gN (h:=h.fh)
 have s0:=s.fh.kp K0
 obtain⟨h1,e1,K1,n1,g1⟩:=zdu (al h.fh 72 z72) d n (by omega) hd
 have ga:=(K1.get _ (nS _)).trans g0
 have la:=nU (nS h.nx) K1.nx
 obtain⟨H,e,g,nx,_⟩:=zqC h h1 p d _ n ga la e1
 exact zN (lo:=h.nx+1) e s ((K0.trans K1).fr p) (fun c hc hd=>g c hc (by omega)) (by omega) (by omega) (nL_ _) g1 (s0.kp K1)
theorem zoP(d:Nat)(hd:40 < d):wT m p b ts E 3 239 d (fun _=>.err 0 14):=by
 intro n h k hn s
 obtain⟨n,rfl⟩:=zs_ n
 have K0:Kp h.fh (al h.fh 72 z72):=(Kp.refl _).al 72 z72
 have g0:(al h.fh 72 z72).get h.nx=some (.row 72 z72 0 false):=gN (h:=h.fh)
 have s0:=s.fh.kp K0
 obtain⟨h1,e1,K1,n1,g1⟩:=zdu (al h.fh 72 z72) d n (by omega) hd
 have ga:=(K1.get _ (nS _)).trans g0
 have la:=nU (nS h.nx) K1.nx
 obtain⟨H,e,g,nx,_⟩:=zmI h h1 p d _ n ga la e1
 exact zN (lo:=h.nx+1) e s ((K0.trans K1).fr p) (fun c hc hd=>g c hc (by omega)) (by omega) (by omega) (nL_ _) g1 (s0.kp K1)
theorem zt4(hA:zdv m A N0)(hlen:∀ x∈ts,x.t.length≤4000):∀ e,e≤41→
  wT m p b ts E (N0+10+10 * e) 176 (41 - e) (lv ts E A e).form∧wT m p b ts E (N0+10+10 * e) 231 (41 - e) (lv ts E A e).pow∧wT m p b ts E (N0+10+10 * e) 239 (41 - e) (lv ts E A e).un:=by
 intro e
 induction e with
 |zero=>
  intro _
  exact⟨(zrI _ (by omega)).mono (by omega),(zrH _ (by omega)).mono (by omega),(zoP _ (by omega)).mono (by omega)⟩
 |succ e ih=>
  intro he
  obtain⟨i1,i2,i3⟩:=ih (by omega)
  obtain⟨d,hd⟩:∃ d,41 - (e+1)=d:=⟨_,rfl⟩
  have hd1:41 - e=d+1:=by omega
  rw[hd1] at i1 i2 i3
  rw[hd]
  have hpr:=za6 ts E A e
  have L1:=znx hA hlen (d:=d) (by omega) i1 (by omega) (by omega)
  have L2:=zkA (d:=d) (by omega) L1 (i3.mono (by omega)) (by omega)
  have L3:=zlh (d:=d) (by omega) L2 (i2.mono (by omega)) (by omega)
  have hu:=zc7 ts (zbm ts E A hpr.1) hpr.2.2
  have hw:=zb2 ts hu hpr.2.1
  have L4:=zhv L3 hw (by omega)
  have L5:=zqe L4 (zaF ts hw) (by omega)
  have L6:=zhz (d:=d) (by omega) L5 (by omega)
  exact⟨L6.mono (by omega),L3.mono (by omega),L2.mono (by omega)⟩
end
end Go.PanE
