/-
 Part 43 of the proof of Rows.DumpLinesCardSaid. No conditions.
-/
import Derived.Test.YtihkphfmnnndfaaGreatDoorT42
namespace Go.PanE
open Go.Proofs
inductive SrcM where
 |nil
 |bool (b:Nat)
 |num
 |text (s:Bsy)
 |form (t:Tr)
open Classical in
noncomputable def rdM(l:Bsy):SrcM×Nat×Nat:=
 if 300 < l.length then(.nil,0,2)
 else match l with
  |[]=>(.nil,0,0)
  |b::t=>
   if b.toNat=61 then(match jo adr t with| .err p c=>(.nil,p+1,c)| .ok tr _=>(.form tr,0,0))
   else if b::t=[84,82,85,69] then(.bool 1,0,0) else if b::t=[70,65,76,83,69] then(.bool 0,0,0)
   else if ∃ a,jm (b::t) a then(.num,0,0)
   else if 200 < (if b.toNat=39 then t else b::t).length then(.nil,0,2) else(.text (if b.toNat=39 then t else b::t),0,0)
def jR(h:Heap)(lo:Nat)(l:Bsy)(v:Value):SrcM→Prop
 | .nil=>v=srV 0 0 0 ⟨#[]⟩ hdZ none 0
 | .bool b=>v=srV 1 1 b ⟨#[]⟩ hdZ none 0
 | .num=>∃ a,jm l a∧v=srV 1 2 a ⟨#[]⟩ hdZ none 0
 | .text s=>v=srV 1 3 0 ⟨⟨s⟩⟩ hdZ none 0
 | .form t=>∃ x r n,v=srV 2 0 0 ⟨#[]⟩ x r n∧zc h (fun b=>lo≤b) x r n t
section
variable {h g H:Heap} {lo lo':Nat} {l:Bsy} {v w:Value}
theorem jR.src:∀ {M:SrcM},jR h lo l v M→zxY v
 | .nil,e=>⟨_,_,_,_,_,_,_,e⟩
 | .bool _,e=>⟨_,_,_,_,_,_,_,e⟩
 | .num,⟨_,_,e⟩=>⟨_,_,_,_,_,_,_,e⟩
 | .text _,e=>⟨_,_,_,_,_,_,_,e⟩
 | .form _,⟨_,_,_,e,_⟩=>⟨_,_,_,_,_,_,_,e⟩
theorem jR.mono(hl:lo'≤lo)(k:∀ c,lo≤c→c < h.nx→g.get c=h.get c):∀ {M:SrcM},jR h lo l v M→jR g lo' l v M
 | .nil,e=>e
 | .bool _,e=>e
 | .num,e=>e
 | .text _,e=>e
 | .form _,⟨x,r,n,e,N⟩=>⟨x,r,n,e,zc.mono (fun c o hc e=>⟨nT hl hc,(k c hc (za e)).trans e⟩) N⟩
theorem zg5{ws:Vs}:∀ {M:SrcM},jR H h.nx l v M→jR (zy h (.tuple ⟨v::ws⟩) H).2 h.nx l v M
 | .nil,e=>e
 | .bool _,e=>e
 | .num,e=>e
 | .text _,e=>e
 | .form (.node y ts),⟨x,r,n,e,N⟩=>by
  subst e
  refine⟨x,r,n,rfl,?_⟩
  unfold zc at N ⊢
  obtain⟨h1,h2,h3⟩:=N
  refine⟨h1,h2,?_⟩
  rcases h3 with h3|⟨b,cs,es,ro,rfl,hb,hg,hA⟩
  ·exact .inl h3
  ·have lo:zM h.nx 5 (.tuple ⟨srV 2 0 0 ⟨#[]⟩ x (some ⟨b,0,none⟩) n::ws⟩)=false:=by simp[zM,srV,jH hb]
   rw[zah lo]
   exact .inr ⟨b,cs,es,ro,rfl,hb,hg,ArgsC.mono (h:=H) (g:={H with wm:=min h.wm H.wm}) (fun _ _ hc e=>⟨hc,e⟩) hA⟩
def ze4(h:Heap)(X:Option (Value×Heap))(l:Bsy)(M:SrcM)(at_ c:Nat):Prop:=∃ v e h',X=some (.tuple #[v,e],h')∧jR h' h.nx l v M∧Kp h h'∧zko h' h.nx e at_ c∧(c=0→e= .nilIface)
variable {X:Option (Value×Heap)} {M:SrcM}
theorem qW(e:X=some (zy h (.tuple #[v,.nilIface]) H))(S:jR H h.nx l v M)(K:Kp h.fh H):ze4 h X l M 0 0:=
 ⟨_,_,_,PanE.fin e,zg5 S,K.fin,.inl ⟨rfl,rfl,rfl⟩,fun _=>rfl⟩
theorem zeD(e:X=some (zy h (.tuple #[v,.iface 309 (pv 11 0)]) H))(S:jR H h.nx l v M)(K:Kp h.fh H):ze4 h X l M 0 2:=
 ⟨_,_,_,PanE.fin e,zg5 S,K.fin,.inr (.inl ⟨rfl,rfl,rfl⟩),fun h=>by cases h⟩
theorem zeE{q a c:Nat}(e:X=some (zy h (.tuple #[v,.iface 149 (pv q 0)]) H))(S:jR H h.nx l v M)(K:Kp h.fh H)(hq:h.nx≤q)(g:H.get q=some (.row 152 [iv (a:Int),iv (c:Int),w] 0 false))(hc:c≠0):ze4 h X l M a c:=
 ⟨_,_,_,jY e (zn8 hq),jR.mono (h:=H) (g:={H with wm:=min h.wm H.wm}) (nL_ _) (fun _ _ _=>rfl) S,⟨K.nx,K.get,Nat.min_le_left _ _⟩,.inr (.inr ⟨q,w,rfl,hq,g⟩),fun h=>absurd h hc⟩
def zph(h:Heap)(X:Option (Value×Heap))(l:Bsy)(M:SrcM)(at_ c:Nat):Prop:=∃ v h',X=some (.tuple #[v,iv (at_:Int),iv (c:Int)],h')∧jR h' h.nx l v M∧Kp h h'
theorem jW{a c:Nat}(e:X=some (zy h (.tuple #[v,iv (a:Int),iv (c:Int)]) H))(S:jR H h.nx l v M)(K:Kp h.fh H):zph h X l M a c:=
 ⟨_,_,PanE.fin e,zg5 S,K.fin⟩
end
theorem zqG{m:Int}(s:BA)(h:Heap)(n:Nat)(hn:1500≤n)(G:Gl m h)(l:Bsy):
  match jo adr s.data.toList with
  | .err p c=>ze4 h (RD n 72 [.string s] h) l .nil (p+1) c
  | .ok t _=>ze4 h (RD n 72 [.string s] h) l (.form t) 0 0:=by
 obtain⟨n,rfl⟩:=zs_ n
 have hG:=G.nx
 have K0:Kp h.fh (al h.fh 74 Z14):=(Kp.refl _).al _ _
 have g0:(al h.fh 74 Z14).get h.nx=some (.row 74 Z14 0 false):=gN (h:=h.fh)
 have n0:(al h.fh 74 Z14).nx=h.nx+1:=rfl
 have G0:Gl m (al h.fh 74 Z14):=G.fh.alloc _
 obtain⟨v1,h1,e1,K1,R1⟩:=zlk (zB1 m) s (al h.fh 74 Z14) n (by omega) G0
 have n1:=K1.nx
 rw[n0] at n1
 have g1:=(K1.get h.nx (by rw[n0];omega)).trans g0
 have K01:=K0.trans K1
 have G1:h1.get 1=some (.row 84 [.iface 309 (pv 11 0)] 0 true):=(K1.get 1 (by rw[n0];omega)).trans (zjU G0)
 cases hp:jo adr s.data.toList with
 |ok t k=>
  rw[hp] at R1
  obtain⟨x,r,l',rfl,N1⟩:=R1
  obtain⟨H,e,g,nx,_,wm⟩:=zvC h h1 s 0 0 n x r l' g1 (by omega) e1 rfl
  exact qW e ⟨x,r,l',rfl,zc.mono (fun c o hc e=>⟨by have:=hc.1;rw[n0] at this;omega,(g c (za e) (by have:=hc.1;rw[n0] at this;omega)).trans e⟩) N1⟩ (yx K01 g (nL_ _) (by omega) wm)
 |err p c=>
  rw[hp] at R1
  obtain⟨hc,hp3⟩:=zaK hp
  have e1':RD n 105 [.string s] (al h.fh 74 Z14)=some (.tuple #[ndV hdZ none 0,iv (p:Int),iv (c:Int)],h1):=by rw[e1,R1];rfl
  by_cases h2:c=2
  ·obtain⟨H,e,g,nx,_,wm,w⟩:=zvD h h1 s p c n hdZ none 0 g1 (by omega) G1 (by omega) (by omega) e1' (neK (k:=0) hc) (eqK (k:=2) h2)
   exact zeE (a:=p+1) e rfl (yx K01 g (nL_ _) (by omega) wm) (by omega) w hc
  ·obtain⟨H,e,g,nx,_,wm,w⟩:=zyR h h1 s p c n hdZ none 0 g1 (by omega) G1 (by omega) (by omega) e1' (neK (k:=0) hc) (neK (k:=2) h2)
   exact zeE (a:=p+1) e rfl (yx K01 g (nL_ _) (by omega) wm) (by omega) w hc
theorem zhW{m:Int}(l:Bsy)(hl:l.length≤3900)(h:Heap)(n:Nat)(hn:1501≤n)(G:Gl m h):ze4 h (RD n 49 [.string ⟨⟨l⟩⟩] h) l (rdM l).1 (rdM l).2.1 (rdM l).2.2:=by
 obtain⟨n,rfl⟩:=zs_ n
 have hG:=G.nx
 have g1:=zjU G
 have hl4:(⟨⟨l⟩⟩:BA).data.toList.length < 4000:=by show l.length < 4000;omega
 unfold rdM
 by_cases h300:300 < l.length
 ·rw[if_pos h300]
  obtain⟨H,e,g,nx,wm⟩:=zqi h ⟨⟨l⟩⟩ n g1 (by omega) (wj (a:=l.length) (b:=300) h300)
  exact zeD e rfl (jM g nx wm)
 rw[if_neg h300]
 have e3:decide (((⟨⟨l⟩⟩:BA).data.toList.length:Int)>300)=false:=zR (a:=l.length) (b:=300) h300
 cases l with
 |nil=>
  obtain⟨H,e,g,nx,wm⟩:=zsT h ⟨⟨[]⟩⟩ n e3 rfl
  exact qW e rfl (jM g nx wm)
 |cons b t=>
  have e0:((⟨⟨b::t⟩⟩:BA).data.toList==(⟨#[]⟩:BA).data.toList)=false:=rfl
  have hpos:0 < (⟨⟨b::t⟩⟩:BA).data.toList.length:=by show 0 < (b::t).length;simp
  have hb0:bAt ⟨⟨b::t⟩⟩ 0=b.toNat:=rfl
  rw[lC] at hl h300
  simp only
  by_cases h61:b.toNat=61
  ·rw[if_pos h61]
   have K0:Kp h.fh (al h.fh 74 Z14):=(Kp.refl _).al _ _
   have g0:(al h.fh 74 Z14).get h.nx=some (.row 74 Z14 0 false):=gN (h:=h.fh)
   have n0:(al h.fh 74 Z14).nx=h.nx+1:=rfl
   have e61:(((bAt ⟨⟨b::t⟩⟩ 0:Int):Int)==61)=true:=by rw[hb0];exact eqK (k:=61) h61
   have PW:=zqG (m:=m) ⟨⟨t⟩⟩ (al h.fh 74 Z14) n (by omega) (G.fh.alloc _) (b::t)
   rw[← zbH b t] at PW
   rw[zbH b t,show(⟨⟨t⟩⟩:BA).data.toList=t from rfl,← zbH b t] at PW
   cases hp:jo adr t with
   |err p c=>
    rw[hp] at PW
    obtain⟨v,e,h1,e1,rfl,K1,EA,_⟩:=PW
    have n1:=K1.nx
    rw[n0] at n1
    have gh:=(K1.get h.nx (by rw[n0];omega)).trans g0
    obtain⟨H,eH,g,nx,wm,wp⟩:=zpy h h1 ⟨⟨b::t⟩⟩ e n 0 0 0 ⟨#[]⟩ hdZ none 0 gh (by omega) hpos hl4 e3 e0 e61 e1
    have KH:=yx (K0.trans K1) g (nL_ _) (by omega) wp
    rcases EA with⟨hc,ha,_⟩|⟨_,ha,_⟩|⟨q,w,rfl,hq,gq⟩
    ·omega
    ·omega
    ·rw[n0] at hq
     exact zeE eH rfl KH (by omega) ((g q (za gq) (by omega)).trans gq) (zaK hp).1
   |ok tr k=>
    rw[hp] at PW
    obtain⟨v,e,h1,e1,S1,K1,EA,he⟩:=PW
    have n1:=K1.nx
    rw[n0] at n1 S1
    have gh:=(K1.get h.nx (by rw[n0];omega)).trans g0
    rw[he rfl] at e1
    obtain⟨k',a,c,st,y,r,l',rfl⟩:=S1.src
    obtain⟨H,eH,g,nx,wm,wp⟩:=zpy h h1 ⟨⟨b::t⟩⟩ .nilIface n k' a c st y r l' gh (by omega) hpos hl4 e3 e0 e61 e1
    exact qW eH (S1.mono (by omega) fun c hc hn=>g c hn (by omega)) (yx (K0.trans K1) g (nL_ _) (by omega) wp)
  rw[if_neg h61]
  have e61:(((bAt ⟨⟨b::t⟩⟩ 0:Int):Int)==61)=false:=by rw[hb0];exact neK (k:=61) h61
  by_cases hT:b::t=[84,82,85,69]
  ·rw[if_pos hT]
   obtain⟨H,e,g,nx,wm⟩:=zyS h ⟨⟨b::t⟩⟩ n hpos hl4 e3 e0 e61 ((zZ (b::t) [84,82,85,69]).trans (dT hT))
   exact qW e rfl (jM g nx wm)
  rw[if_neg hT]
  have eT:=(zZ (b::t) [84,82,85,69]).trans (dF hT)
  by_cases hF:b::t=[70,65,76,83,69]
  ·rw[if_pos hF]
   obtain⟨H,e,g,nx,wm⟩:=zyT h ⟨⟨b::t⟩⟩ n hpos hl4 e3 e0 e61 eT ((zZ (b::t) [70,65,76,83,69]).trans (dT hF))
   exact qW e rfl (jM g nx wm)
  rw[if_neg hF]
  have eF:=(zZ (b::t) [70,65,76,83,69]).trans (dF hF)
  obtain⟨a,ok,eN,hD⟩:=ztT (G.fh.alloc (.row 74 Z14 0 false)) (b::t) (by rw[lC];omega) n (by omega)
  rcases hD with⟨rfl,hD⟩|⟨rfl,hD⟩
  ·rw[if_pos ⟨a,hD⟩]
   obtain⟨H,e,g,nx,wm⟩:=zsQ h ⟨⟨b::t⟩⟩ a n hpos hl4 e3 e0 e61 eT eF eN
   exact qW e ⟨a,hD,rfl⟩ (jM g nx wm)
  ·rw[if_neg (fun⟨a,ha⟩=>hD a ha)]
   by_cases h39:b.toNat=39
   ·have e39:(((bAt ⟨⟨b::t⟩⟩ 0:Int):Int)==39)=true:=by rw[hb0];exact eqK (k:=39) h39
    simp only[if_pos h39]
    have eo:=zgF t (al h.fh 74 Z14) n (by omega)
    rw[← zbH b t] at eo
    by_cases h200:200 < t.length
    ·rw[if_neg (by omega)] at eo
     rw[if_pos h200]
     obtain⟨H,e,g,nx,wm⟩:=zvE h ⟨⟨b::t⟩⟩ a n hpos hl4 g1 (by omega) e3 e0 e61 eT eF eN e39 eo
     exact zeD e rfl (jM g nx wm)
    ·rw[if_pos (by omega)] at eo
     rw[if_neg h200]
     obtain⟨H,e,g,nx,wm⟩:=zvF h ⟨⟨b::t⟩⟩ _ a n hpos hl4 e3 e0 e61 eT eF eN e39 eo
     exact qW e (by rw[zbH];rfl) (jM g nx wm)
   ·have e39:(((bAt ⟨⟨b::t⟩⟩ 0:Int):Int)==39)=false:=by rw[hb0];exact neK (k:=39) h39
    simp only[if_neg h39]
    have eo:=zgF (b::t) (al h.fh 74 Z14) n (by omega)
    by_cases h200:200 < (b::t).length
    ·rw[if_neg (by omega)] at eo
     rw[if_pos h200]
     obtain⟨H,e,g,nx,wm⟩:=zvG h ⟨⟨b::t⟩⟩ a n hpos hl4 g1 (by omega) e3 e0 e61 eT eF eN e39 eo
     exact zeD e rfl (jM g nx wm)
    ·rw[if_pos (by omega)] at eo
     rw[if_neg h200]
     obtain⟨H,e,g,nx,wm⟩:=zvH h ⟨⟨b::t⟩⟩ ⟨⟨b::t⟩⟩ a n hpos hl4 e3 e0 e61 eT eF eN e39 eo
     exact qW e rfl (jM g nx wm)
theorem zqr{m:Int}(l:Bsy)(hl:l.length≤3900)(h:Heap)(n:Nat)(hn:1502≤n)(G:Gl m h):zph h (RD n 29 [.string ⟨⟨l⟩⟩] h) l (rdM l).1 (rdM l).2.1 (rdM l).2.2:=by
 obtain⟨n,rfl⟩:=zs_ n
 have hG:=G.nx
 have K0:Kp h.fh (al h.fh 74 Z14):=(Kp.refl _).al _ _
 have g0:(al h.fh 74 Z14).get h.nx=some (.row 74 Z14 0 false):=gN (h:=h.fh)
 have n0:(al h.fh 74 Z14).nx=h.nx+1:=rfl
 obtain⟨v,e,h1,e1,S1,K1,EA,_⟩:=zhW (m:=m) l hl (al h.fh 74 Z14) n (by omega) (G.fh.alloc _)
 obtain⟨k,a,c,st,y,r,l',rfl⟩:=S1.src
 have n1:=K1.nx
 rw[n0] at n1
 have gh:=(K1.get h.nx (by rw[n0];omega)).trans g0
 have G1:Gl m h1:=⟨by omega,fun c hc=>(K1.get c (by rw[n0];omega)).trans ((G.fh.alloc (.row 74 Z14 0 false)).get c hc)⟩
 have K2:Kp h1 (pt (al h1 74 Z14) h1.nx 74 [iv k,iv a,iv c,.string st,iv y.k,iv y.a,iv y.b,.string y.t,iv y.r0,iv y.c0,iv y.r1,iv y.c1,.string y.nm,.slice r l' l']):=((Kp.refl h1).al _ _).pt _ _ (nL_ _) (nS _)
 have G2:Gl m (pt (al h1 74 Z14) h1.nx 74 [iv k,iv a,iv c,.string st,iv y.k,iv y.a,iv y.b,.string y.t,iv y.r0,iv y.c0,iv y.r1,iv y.c1,.string y.nm,.slice r l' l']):=⟨by show 14≤h1.nx+1;omega,fun c hc=>(K2.get c (by omega)).trans (G1.get c hc)⟩
 have EA2:zko (pt (al h1 74 Z14) h1.nx 74 [iv k,iv a,iv c,.string st,iv y.k,iv y.a,iv y.b,.string y.t,iv y.r0,iv y.c0,iv y.r1,iv y.c1,.string y.nm,.slice r l' l']) (al h.fh 74 Z14).nx e (rdM l).2.1 (rdM l).2.2:=by
  rcases EA with x|x|⟨q,w,rfl,hq,gq⟩
  ·exact .inl x
  ·exact .inr (.inl x)
  ·exact .inr (.inr ⟨q,w,rfl,hq,(K2.get q (za gq)).trans gq⟩)
 obtain⟨H,eH,g,nx,wm,wp⟩:=zyO h h1 ⟨⟨l⟩⟩ e (rdM l).2.1 (rdM l).2.2 n k a c st y r l' gh (by omega) e1 (zmV G2 EA2 n (by omega))
 rw[n0] at S1
 exact jW eH (S1.mono (by omega) fun c hc hn=>g c hn (by omega)) (yx (K0.trans K1) g (nL_ _) (by omega) wp)
theorem zhX{m:Int}(l:Bsy)(hl:l.length≤3900)(h:Heap)(n:Nat)(hn:1502≤n)(G:Gl m h):zph h (RD n 31 [.string ⟨⟨l⟩⟩] h) l (rdM l).1 (rdM l).2.1 (rdM l).2.2:=by
 obtain⟨n,rfl⟩:=zs_ n
 have hG:=G.nx
 have hl4:(⟨⟨l⟩⟩:BA).data.toList.length < 4000:=by show l.length < 4000;omega
 unfold rdM
 by_cases h300:300 < l.length
 ·rw[if_pos h300]
  obtain⟨H,e,g,nx,wm⟩:=zqm h ⟨⟨l⟩⟩ n (wj (a:=l.length) (b:=300) h300)
  exact jW (a:=0) (c:=2) e rfl (jM g nx wm)
 rw[if_neg h300]
 have e3:decide (((⟨⟨l⟩⟩:BA).data.toList.length:Int)>300)=false:=zR (a:=l.length) (b:=300) h300
 cases l with
 |nil=>
  obtain⟨H,e,g,nx,wm⟩:=zs7 h ⟨⟨[]⟩⟩ n e3 rfl
  exact jW (a:=0) (c:=0) e rfl (jM g nx wm)
 |cons b t=>
  have e0:((⟨⟨b::t⟩⟩:BA).data.toList==(⟨#[]⟩:BA).data.toList)=false:=rfl
  have hpos:0 < (⟨⟨b::t⟩⟩:BA).data.toList.length:=by show 0 < (b::t).length;simp
  have hb0:bAt ⟨⟨b::t⟩⟩ 0=b.toNat:=rfl
  rw[lC] at hl h300
  simp only
  by_cases h61:b.toNat=61
  ·rw[if_pos h61]
   have K0:Kp h.fh (al h.fh 80 Z14):=(Kp.refl _).al _ _
   have g0:(al h.fh 80 Z14).get h.nx=some (.row 80 Z14 0 false):=gN (h:=h.fh)
   have n0:(al h.fh 80 Z14).nx=h.nx+1:=rfl
   have e61:(((bAt ⟨⟨b::t⟩⟩ 0:Int):Int)==61)=true:=by rw[hb0];exact eqK (k:=61) h61
   obtain⟨v1,h1,e1,K1,R1⟩:=zjz (zB0 m) ⟨⟨t⟩⟩ (al h.fh 80 Z14) n (by omega) (G.fh.alloc _)
   have n1:=K1.nx
   rw[n0] at n1
   have gh:=(K1.get h.nx (by rw[n0];omega)).trans g0
   rw[← zbH b t] at e1
   cases hp:jo adr t with
   |ok tr k=>
    have R1':∃ x r l,v1= .tuple #[ndV x r l,iv 0,iv 0]∧zV h1 (al h.fh 80 Z14).nx h1.nx x r l tr:=by
     have:jo adr (⟨⟨t⟩⟩:BA).data.toList= .ok tr k:=hp
     rw[this] at R1
     exact R1
    obtain⟨x,r,l',rfl,N1⟩:=R1'
    obtain⟨H,e,g,nx,_,wm⟩:=zvS h h1 ⟨⟨b::t⟩⟩ 0 0 n x r l' gh (by omega) hpos hl4 e3 e0 e61 e1 rfl
    exact jW (a:=0) (c:=0) e ⟨x,r,l',rfl,zc.mono (fun c o hc e=>⟨by have:=hc.1;rw[n0] at this;omega,(g c (za e) (by have:=hc.1;rw[n0] at this;omega)).trans e⟩) N1⟩ (yx (K0.trans K1) g (nL_ _) (by omega) wm)
   |err p c=>
    have R1':v1= .tuple #[zj,iv (p:Int),iv (c:Int)]:=by
     have:jo adr (⟨⟨t⟩⟩:BA).data.toList= .err p c:=hp
     rw[this] at R1
     exact R1
    obtain⟨hc,hp3⟩:=zaK hp
    have e1':RD n 52 [.string (zv ⟨⟨b::t⟩⟩ 1 ((⟨⟨b::t⟩⟩:BA).data.toList.length:Nat))] (al h.fh 80 Z14)=some (.tuple #[ndV hdZ none 0,iv (p:Int),iv (c:Int)],h1):=by rw[e1,R1'];rfl
    obtain⟨H,e,g,nx,_,wm⟩:=zzb h h1 ⟨⟨b::t⟩⟩ p c n hdZ none 0 gh (by omega) hpos hl4 (by omega) e3 e0 e61 e1' (congrArg (! ·) (neK (k:=0) hc))
    exact jW (a:=p+1) (c:=c) e rfl (yx (K0.trans K1) g (nL_ _) (by omega) wm)
  rw[if_neg h61]
  have e61:(((bAt ⟨⟨b::t⟩⟩ 0:Int):Int)==61)=false:=by rw[hb0];exact neK (k:=61) h61
  by_cases hT:b::t=[84,82,85,69]
  ·rw[if_pos hT]
   have eT:=(zZ (b::t) [84,82,85,69]).trans (dT hT)
   obtain⟨H,e,g,nx,wm⟩:=zzc h ⟨⟨b::t⟩⟩ n hpos hl4 e3 e0 e61 eT eT
   exact jW (a:=0) (c:=0) e rfl (jM g nx wm)
  rw[if_neg hT]
  have eT:=(zZ (b::t) [84,82,85,69]).trans (dF hT)
  by_cases hF:b::t=[70,65,76,83,69]
  ·rw[if_pos hF]
   obtain⟨H,e,g,nx,wm⟩:=zzd h ⟨⟨b::t⟩⟩ n hpos hl4 e3 e0 e61 eT ((zZ (b::t) [70,65,76,83,69]).trans (dT hF)) eT
   exact jW (a:=0) (c:=0) e rfl (jM g nx wm)
  rw[if_neg hF]
  have eF:=(zZ (b::t) [70,65,76,83,69]).trans (dF hF)
  obtain⟨a,ok,eN,_,_,hD⟩:=zpN (b::t) (by rw[lC];omega) (al h.fh 80 Z14) n (by omega)
  rcases hD with⟨rfl,hD⟩|⟨rfl,hD⟩
  ·rw[if_pos ⟨a,hD⟩]
   obtain⟨H,e,g,nx,wm⟩:=zs6 h ⟨⟨b::t⟩⟩ a n hpos hl4 e3 e0 e61 eT eF eN
   exact jW (a:=0) (c:=0) e ⟨a,hD,rfl⟩ (jM g nx wm)
  ·rw[if_neg (fun⟨a,ha⟩=>hD a ha)]
   by_cases h39:b.toNat=39
   ·have e39:(((bAt ⟨⟨b::t⟩⟩ 0:Int):Int)==39)=true:=by rw[hb0];exact eqK (k:=39) h39
    simp only[if_pos h39]
    by_cases h200:200 < t.length
    ·rw[if_pos h200]
     obtain⟨H,e,g,nx,wm⟩:=zvR h ⟨⟨b::t⟩⟩ a n hpos hl4 e3 e0 e61 eT eF eN e39 (by rw[zbH];exact wj (a:=t.length) (b:=200) h200)
     exact jW (a:=0) (c:=2) e rfl (jM g nx wm)
    ·rw[if_neg h200]
     obtain⟨H,e,g,nx,wm⟩:=zvQ h ⟨⟨b::t⟩⟩ a n hpos hl4 e3 e0 e61 eT eF eN e39 (by rw[zbH];exact zR (a:=t.length) (b:=200) h200)
     exact jW (a:=0) (c:=0) e (by rw[zbH];rfl) (jM g nx wm)
   ·have e39:(((bAt ⟨⟨b::t⟩⟩ 0:Int):Int)==39)=false:=by rw[hb0];exact neK (k:=39) h39
    simp only[if_neg h39]
    by_cases h200:200 < (b::t).length
    ·rw[if_pos h200]
     obtain⟨H,e,g,nx,wm⟩:=zvU h ⟨⟨b::t⟩⟩ a n hpos hl4 e3 e0 e61 eT eF eN e39 (wj (a:=(b::t).length) (b:=200) h200)
     exact jW (a:=0) (c:=2) e rfl (jM g nx wm)
    ·rw[if_neg h200]
     obtain⟨H,e,g,nx,wm⟩:=zvT h ⟨⟨b::t⟩⟩ a n hpos hl4 e3 e0 e61 eT eF eN e39 (zR (a:=(b::t).length) (b:=200) h200)
     exact jW (a:=0) (c:=0) e rfl (jM g nx wm)
end Go.PanE
namespace Go.PanE
open Go.Proofs
open Classical in
noncomputable def je(s:Bsy):Bsy:=if rdM s=(.text s,0,0) then s else 39::s
noncomputable def wrM(l:Bsy):SrcM→Bsy×Nat
 | .nil=>([],0)
 | .bool b=>(if(b:Int)=1 then[84,82,85,69] else[70,65,76,83,69],0)
 | .num=>(l,0)
 | .text s=>(je s,0)
 | .form t=>if(jT t).2≠0 then([],(jT t).2) else if 299 < (jT t).1.length then([],2) else(61::(jT t).1,0)
noncomputable def clM(l:Bsy):Bsy×Nat:=if(rdM l).2.2≠0 then([],(rdM l).2.2) else wrM l (rdM l).1
noncomputable def clA(l:Bsy):Nat:=if(rdM l).2.2≠0 then(rdM l).2.1 else 0
def zkn:SrcM→Prop
 | .bool b=>b≤1
 | .text s=>s.length≤200
 | .form t=>GT t∧t.depth≤16∧t.size≤300
 |_=>True
theorem zdb(l:Bsy):zkn (rdM l).1:=by
 unfold rdM
 split
 ·trivial
 cases l with
 |nil=>trivial
 |cons b t=>
  simp only
  split
  ·split
   ·trivial
   next hp=>exact zlm hp
  split
  ·exact nL_ 1
  split
  ·exact Nat.zero_le 1
  split
  ·trivial
  generalize (if b.toNat=39 then t else b::t)=u
  by_cases h:200 < u.length
  ·rw[if_pos h];trivial
  ·rw[if_neg h];exact Nat.le_of_not_lt h
theorem zta(l:Bsy)(hc:(rdM l).2.2=0):(rdM l).2.1=0:=by
 revert hc
 unfold rdM
 split
 ·exact fun _=>rfl
 cases l with
 |nil=>exact fun _=>rfl
 |cons b t=>
  simp only
  split
  ·split
   next hp=>exact fun h=>absurd h (zaK hp).1
   ·exact fun _=>rfl
  split
  ·exact fun _=>rfl
  split
  ·exact fun _=>rfl
  split
  ·exact fun _=>rfl
  generalize (if b.toNat=39 then t else b::t)=u
  split <;>exact fun _=>rfl
theorem zpV{h h1 H:Heap}{w n:Nat}(K:Kp h.fh h1)(T:tl0 h1 w n H)(hw:w≤h1.wm)(hn:h1.nx≤n):Kp h.fh H:=
 ⟨nT K.nx (by rw[T.2.1];exact hn),fun c hc=>(T.1 c (nU hc K.nx)).trans (K.get c hc),nT T.2.2 (nT hw K.wm)⟩
/-! Trees held against the empty one. -/
theorem zvP(h:Heap)(n:Nat)(hn:2≤n):RD n 128 [zj,zj] h=some (.bool true,h):=by
 obtain⟨n,rfl⟩:∃ m,n=m+1+1:=⟨n - 2,by omega⟩
 have L:∀ g:Heap,Loops En (RD n) 32 18446744073709551616 (sub [1,1,0,1,0,0] (zp Tryz.f160)) [(16,iv 0),(17,iv 0)] g (.exit 0) [] g 1:=fun g=>.out (zBq g n)
 exact zy9 h (n+1) (vz _ _ (by omega)) ja (zBp _ n ((L _).fact2 (by omega) (by kernel_rfl)))
theorem zez(h:Heap)(n:Nat)(hn:2≤n):RD n 127 [zj] h=some (.bool true,h):=
 zb0 (zc.leaf h (fun _=>True) hdZ) n (by simp[Tr.size,zo]) (by show 1+1≤n;exact hn)
theorem zei(h:Heap)(n:Nat)(hn:3≤n):RD n 95 [zj,zj] h=some (.bool true,h):=by
 obtain⟨n,rfl⟩:=zs_ n
 exact zsU h n true hdZ none 0 (zez _ n (by omega)) (zez _ n (by omega)) (zvP _ n (by omega))
theorem zu8{t:Tr}(g:GT t){h:Heap}{P:Nat→Prop}{x:Hd}{r:OA}{k:Nat}(N:zc h P x r k t)(hs:t.size≤300)(hd:t.depth≤16)(n:Nat)(hn:20≤n):RD n 95 [ndV x r k,zj] h=some (.bool false,h):=by
 obtain⟨n,rfl⟩:∃ m,n=m+1+1:=⟨n - 2,by omega⟩
 have N1:zc (al (al h.fh 72 (ndL x r k)) 72 z72) P x r k t:=zc.mono (h:=h) (fun c o hc e=>⟨hc,gA (gA (h:=h.fh) e)⟩) N
 have hk:((x.k:Int)==0)=false:=by
  cases g <;>(unfold zc at N;obtain⟨rfl,_⟩:=N;rfl)
 exact zsU h (n+1) false x r k (zb0 N1 _ (by omega) (by omega)) (zez _ _ (by omega)) (zza _ n 0 x r k hk)
section
variable {m:Int} {h:Heap}
theorem zmX(s:Bsy)(hs:s.length≤200)(n:Nat)(hn:1502≤n)(G:Gl m h):∃ h',RD n 96 [.agg #[iv 3,iv 0,.string ⟨⟨s⟩⟩]] h=some (.string ⟨⟨je s⟩⟩,h')∧Kp h h':=by
 obtain⟨n,rfl⟩:=zs_ n
 have K0:Kp h.fh (al h.fh 27 [iv 3,iv 0,.string ⟨⟨s⟩⟩]):=(Kp.refl _).al _ _
 obtain⟨v,e,h1,e1,S,K1,EA,he⟩:=zhW (m:=m) s (by omega) (al h.fh 27 [iv 3,iv 0,.string ⟨⟨s⟩⟩]) n (by omega) (G.fh.alloc _)
 have g1:=(K1.get h.nx (nS _)).trans (gN (h:=h.fh) (t:=27) (cs:=[iv 3,iv 0,.string ⟨⟨s⟩⟩]))
 have K:=K0.trans K1
 have out:∀ {X:Option (Value×Heap)} {u:Bsy} {w:Value},(∃ H,X=some (zy h w H)∧tl0 h1 h1.wm (h1.nx+1) H)→w= .string ⟨⟨u⟩⟩→u=je s→∃ h',X=some (.string ⟨⟨je s⟩⟩,h')∧Kp h h':=fun⟨H,e,T⟩ hw hu=>by
  subst hw hu
  exact⟨_,PanE.fin e,(zpV K T (nL_ _) (by omega)).fin⟩
 have no:rdM s≠(.text s,0,0)→39::s=je s:=fun hn=>by unfold je;rw[if_neg hn]
 rcases EA with⟨hc,ha,rfl⟩|⟨hc,ha,rfl⟩|⟨q,w,rfl,hq,gq⟩
 ·cases hM:(rdM s).1 with
  |nil=>
   rw[hM] at S
   subst S
   exact out (zsF h h1 _ n 0 0 0 ⟨#[]⟩ hdZ none 0 g1 (by rw[bsz];omega) e1 rfl) rfl (no fun h=>by rw[h] at hM;cases hM)
  |form t=>
   rw[hM] at S
   obtain⟨x,r,k,rfl,_⟩:=S
   exact out (zsF h h1 _ n 2 0 0 ⟨#[]⟩ x r k g1 (by rw[bsz];omega) e1 rfl) rfl (no fun h=>by rw[h] at hM;cases hM)
  |bool b=>
   rw[hM] at S
   subst S
   exact out (zmJ h h1 _ n 1 1 b ⟨#[]⟩ hdZ none 0 g1 (by rw[bsz];omega) e1 rfl (yk 1 b 3 0 ⟨#[]⟩ ⟨⟨s⟩⟩ _ n (by omega))) rfl (no fun h=>by rw[h] at hM;cases hM)
  |num=>
   rw[hM] at S
   obtain⟨a,_,rfl⟩:=S
   exact out (zmJ h h1 _ n 1 2 a ⟨#[]⟩ hdZ none 0 g1 (by rw[bsz];omega) e1 rfl (yk 2 a 3 0 ⟨#[]⟩ ⟨⟨s⟩⟩ _ n (by omega))) rfl (no fun h=>by rw[h] at hM;cases hM)
  |text u=>
   rw[hM] at S
   subst S
   have ev:=yk 3 0 3 0 ⟨⟨u⟩⟩ ⟨⟨s⟩⟩ (pt (al h1 74 (srL 0 0 0 ⟨#[]⟩ hdZ none 0)) h1.nx 74 (srL 1 3 0 ⟨⟨u⟩⟩ hdZ none 0)) n (by omega)
   have eu:zbW 3 0 3 0 ⟨⟨u⟩⟩ ⟨⟨s⟩⟩= .bool (decide (u=s)):=by
    show(bif bqS ⟨⟨u⟩⟩ ⟨⟨s⟩⟩ then Value.bool true else .bool false)=_
    rw[zZ]
    cases decide (u=s) <;>rfl
   rw[eu] at ev
   by_cases hus:u=s
   ·rw[dT hus] at ev
    refine out (zyv h h1 _ n 1 3 0 ⟨⟨u⟩⟩ hdZ none 0 g1 e1 rfl ev) rfl ?_
    unfold je
    rw[if_pos]
    rw[hus] at hM
    exact Prod.ext hM (Prod.ext ha hc)
   ·rw[dF hus] at ev
    exact out (zmJ h h1 _ n 1 3 0 ⟨⟨u⟩⟩ hdZ none 0 g1 (by rw[bsz];omega) e1 rfl ev) rfl (no fun h=>by rw[h] at hM;cases hM;exact hus rfl)
 ·obtain⟨k,a,b,st,y,r,l',rfl⟩:=S.src
  exact out (zyw h h1 _ n k a b st y r l' g1 (by rw[bsz];omega) e1) rfl (no fun h=>by rw[h] at hc;cases hc)
 ·obtain⟨k,a,b,st,y,r,l',rfl⟩:=S.src
  refine out (zyu h h1 _ n k a b st y r l' q g1 (by rw[bsz];omega) e1) rfl (no fun h=>?_)
  have:=he (by rw[h])
  cases this
theorem zjx(s:Bsy):(je s).length≤s.length+1:=by
 unfold je
 split
 ·omega
 ·rw[lC];omega
theorem zso{lo:Nat}{l:Bsy}{v:Value}{M:SrcM}(S:jR h lo l v M)(g:zkn M)(n:Nat)(hn:1503≤n)(G:Gl m h):∃ h',RD n 63 [v] h=some (.tuple #[.string ⟨⟨(wrM l M).1⟩⟩,iv (((wrM l M).2:Nat):Int)],h')∧Kp h h':=by
 obtain⟨n,rfl⟩:=zs_ n
 have pure:∀ {X:Option (Value×Heap)} {w:Value},X=some (w,h)→∃ h',X=some (w,h')∧Kp h h':=fun e=>⟨h,e,Kp.refl h⟩
 cases M with
 |nil=>
  have S:v=_:=S
  subst S
  exact pure (zx8 h n (vz _ n (by omega)) (zei _ n (by omega)))
 |bool b=>
  have S:v=_:=S
  subst S
  have hb:b≤1:=g
  have e44:=qu 1 b ⟨#[]⟩ (al h.fh 74 (srL 1 1 b ⟨#[]⟩ hdZ none 0)) n (by omega)
  have:wV 1 b ⟨#[]⟩= .bool true:=by
   match b,hb with
   |0,_=>rfl
   |1,_=>rfl
  rw[this] at e44
  refine pure (zx7 h n b _ (yk 1 b 0 0 ⟨#[]⟩ ⟨#[]⟩ _ n (by omega)) (zei _ n (by omega)) e44 (zhE _ n (by omega) b hb) ?_)
  match b,hb with
  |0,_=>rfl
  |1,_=>rfl
 |num=>
  obtain⟨a,ha,rfl⟩:=S
  have hl:=ha.len
  have e:=(zs0 (al h.fh 74 (srL 1 2 a ⟨#[]⟩ hdZ none 0)) (n - 1) a ⟨⟨Lib.itoa a⟩⟩ (qu 2 a ⟨#[]⟩ _ _ (by omega)) (zaN ((G.fh.alloc _).fh.alloc _) ha.1 ha.2.1 _ (by omega)))
  rw[ha.2.2,show n - 1+1=n by omega] at e
  exact pure (zx5 h n a _ (yk 2 a 0 0 ⟨#[]⟩ ⟨#[]⟩ _ n (by omega)) (zei _ n (by omega)) (qu 2 a ⟨#[]⟩ _ n (by omega)) e (zR (a:=l.length) (b:=300) (by omega)))
 |text s=>
  have S:v=_:=S
  subst S
  have hs:s.length≤200:=g
  have e44:=qu 3 0 ⟨⟨s⟩⟩ (al h.fh 74 (srL 1 3 0 ⟨⟨s⟩⟩ hdZ none 0)) n (by omega)
  have:wV 3 0 ⟨⟨s⟩⟩= .bool true:=by
   show(bif decide ((s.length:Int)≤200) then Value.bool true else .bool false)=_
   rw[dT (by omega)];rfl
  rw[this] at e44
  obtain⟨h1,e1,K1⟩:=zmX (m:=m) (h:=al h.fh 74 (srL 1 3 0 ⟨⟨s⟩⟩ hdZ none 0)) s hs n (by omega) (G.fh.alloc _)
  have hp:=zjx s
  exact⟨_,PanE.fin (zx2 h h1 n ⟨⟨s⟩⟩ ⟨⟨je s⟩⟩ (yk 3 0 0 0 ⟨⟨s⟩⟩ ⟨#[]⟩ _ n (by omega)) (zei _ n (by omega)) e44 e1 (zR (a:=(je s).length) (b:=300) (by omega))),(((Kp.refl h.fh).al _ _).trans K1).fin⟩
 |form t=>
  obtain⟨x,r,k,rfl,N⟩:=S
  obtain⟨gt,gd,gs⟩:=g
  have N0:zc (al h.fh 74 (srL 2 0 0 ⟨#[]⟩ x r k)) (fun b=>lo≤b) x r k t:=zc.mono (h:=h) (fun c o hc e=>⟨hc,gA (h:=h.fh) e⟩) N
  have e97:=zlg gt gd gs (G.fh.alloc (.row 74 (srL 2 0 0 ⟨#[]⟩ x r k) 0 false)) N0 n (by omega)
  have e95:=zu8 gt N0 gs gd n (by omega)
  have out:∀ {X:Option (Value×Heap)} {w:Value},X=some (zy h w (al h.fh 74 (srL 2 0 0 ⟨#[]⟩ x r k)))→∃ h',X=some (w,h')∧Kp h h':=fun e=>⟨_,PanE.fin e,((Kp.refl h.fh).al _ _).fin⟩
  have hfl:(jT t).1.length≤300:=by
   unfold jT
   split
   ·simp
   ·show(txt t).length≤300;omega
  simp only[wrM]
  by_cases hc:(jT t).2=0
  ·rw[if_neg (by omega)]
   rw[hc] at e97
   by_cases hl:299 < (jT t).1.length
   ·rw[if_pos hl]
    exact out (zx3 h _ n _ x r k (by rw[bsz];omega) (vz _ n (by omega)) e95 e97 (wj (a:=(61::(jT t).1).length) (b:=300) (by rw[lC];omega)))
   ·rw[if_neg hl]
    exact out (zx4 h _ n _ x r k (by rw[bsz];omega) (vz _ n (by omega)) e95 e97 (zR (a:=(61::(jT t).1).length) (b:=300) (by rw[lC];omega)))
  ·rw[if_pos hc]
   exact out (zx6 h _ n _ x r k _ (vz _ n (by omega)) e95 e97 (congrArg (! ·) (neK (k:=0) hc)))
theorem zmd(l:Bsy)(hl:l.length≤3900)(n:Nat)(hn:1504≤n)(G:Gl m h):∃ h',RD n 38 [.string ⟨⟨l⟩⟩] h=some (.tuple #[.string ⟨⟨(clM l).1⟩⟩,iv ((clA l:Nat):Int),iv (((clM l).2:Nat):Int)],h')∧Kp h h':=by
 obtain⟨n,rfl⟩:=zs_ n
 obtain⟨v,h1,e1,S,K1⟩:=zqr (m:=m) l hl h.fh n (by omega) G.fh
 have gM:=zdb l
 have hS:=S
 obtain⟨k,a,b,st,y,r,l',rfl⟩:=S.src
 have K2:Kp h1 (pt (al h1 74 (srL 0 0 0 ⟨#[]⟩ hdZ none 0)) h1.nx 74 (srL k a b st y r l')):=((Kp.refl h1).al _ _).pt _ _ (nL_ _) (nS _)
 unfold clM clA
 by_cases hc:(rdM l).2.2=0
 ·rw[if_neg (by omega),if_neg (by omega)]
  have S2:jR (pt (al h1 74 (srL 0 0 0 ⟨#[]⟩ hdZ none 0)) h1.nx 74 (srL k a b st y r l')) h.nx l (srV k a b st y r l') (rdM l).1:=hS.mono (nL_ _) fun c _ hc=>K2.get c hc
  have hnx:h.nx≤h1.nx:=K1.nx
  have hG:=G.nx
  have G2:Gl m (pt (al h1 74 (srL 0 0 0 ⟨#[]⟩ hdZ none 0)) h1.nx 74 (srL k a b st y r l')):=⟨by show 14≤h1.nx+1;omega,fun c hc=>((K2.get c (by omega)).trans (K1.get c (by show c < h.nx;omega))).trans (G.get c hc)⟩
  obtain⟨h2,e2,K3⟩:=zso S2 gM n (by omega) G2
  exact⟨_,PanE.fin (zBL h h1 ⟨⟨l⟩⟩ (rdM l).2.1 (rdM l).2.2 n k a b st y r l' h2 _ _ e1 (congrArg (! ·) (eqK (k:=0) hc)) e2),((K1.trans K2).trans K3).fin⟩
 ·rw[if_pos hc,if_pos hc]
  exact⟨_,PanE.fin (zBM h h1 ⟨⟨l⟩⟩ (rdM l).2.1 (rdM l).2.2 n k a b st y r l' e1 (congrArg (! ·) (neK (k:=0) hc))),(K1.trans K2).fin⟩
end
end Go.PanE
namespace Go.PanE
open Go.Proofs
theorem zh1(h:Heap)(n:Nat)(hn:1≤n):RD n 170 [] h=some (sv h.nx 0 13 13,{al h.fh 9 zar with wm:=min h.wm h.nx}):=by
 obtain⟨n,rfl⟩:=zs_ n
 exact jY (zz1 h n) (by simp[zM,jH])
theorem zhP(s:Bsy)(n:Nat){h:Heap}{q:Nat}(hg:h.get q=some (.row 9 zar 0 false)):∀ (r:List (Bsy)) (i:Nat),wq.drop i=r→s∈r→
  ∃ R,R≤r.length∧Loops En (RD n) 18 18446744073709551616 (sub [1,1,0,1,0,0] (zp Tryz.f168)) [(0,.string ⟨⟨s⟩⟩),(3,sv q 0 13 13),(4,iv (i:Int))] h .ret [(2,.bool true)] h R
 |[],i,_,hs=>by cases hs
 |u::r,i,hi,hs=>by
  have hlt:i < 13:=by
   rcases Nat.lt_or_ge i 13 with h1|h1
   ·exact h1
   ·rw[List.drop_eq_nil_of_le (show wq.length≤i from h1)] at hi;cases hi
  have hu:wq[i]? =some u:=by
   have:=congrArg List.head? hi
   rw[List.head?_drop] at this
   exact this
  have ld:=zdX hg hu
  have lt:=zw (a:=i) (b:=13) hlt
  by_cases e:u=s
  ·exact⟨1,by simp,.ret (zyV h ⟨⟨s⟩⟩ ⟨⟨u⟩⟩ q i n hlt lt ld ((zZ u s).trans (dT e)))⟩
  ·obtain⟨R,hR,L⟩:=zhP s n hg r (i+1) (by rw[← List.drop_drop,hi];rfl) (by rcases List.mem_cons.1 hs with rfl|h;exact absurd rfl e;exact h)
   exact⟨R+1,by rw[lC];omega,.on (zyX h ⟨⟨s⟩⟩ ⟨⟨u⟩⟩ q i n hlt lt ld ((zZ u s).trans (dF e))) L⟩
theorem zqk{s:Bsy}(hs:s∈wq)(h:Heap)(n:Nat)(hn:2≤n):RD n 168 [.string ⟨⟨s⟩⟩] h=some (.bool true,h):=by
 obtain⟨n,rfl⟩:=zs_ n
 have e:=zh1 h.fh n (by omega)
 obtain⟨R,hR,L⟩:=zhP s n (h:={al h.fh.fh 9 zar with wm:=min h.fh.wm h.fh.nx}) (q:=h.nx) (gN (h:=h.fh)) wq 0 rfl hs
 refine(zyW h _ ⟨⟨s⟩⟩ h.nx n e (L.fact2 (by have:wq.length=13:=rfl;omega) (by kernel_rfl))).trans (congrArg some (zk ?_ rfl))
 show h.nx≤min h.nx h.nx
 omega
theorem zhG(l:Bsy)(n:Nat)(h:Heap)(hl:l.length≤8)(hw:∀ b∈l,uP b=true):∀ (k i:Nat),i+k=l.length→
  Loops En (RD n) 51 18446744073709551616 (sub [1,1,0,1,0,0] (zp Tryz.f169)) [(0,.string ⟨⟨l⟩⟩),(3,iv (i:Int))] h (.exit 0) [] h (k+1)
 |0,i,hi=>.out (zsp h ⟨⟨l⟩⟩ i n (zE (a:=i) (b:=l.length) (by omega)))
 |k+1,i,hi=>by
  have hlt:i < l.length:=by omega
  have hb:bAt ⟨⟨l⟩⟩ (i:Int)=(l[i]'hlt).toNat:=by unfold bAt;simp[hlt]
  have lt:=zw (a:=i) (b:=l.length) hlt
  have L:=zhG l n h hl hw k (i+1) (by omega)
  have w:=hw _ (List.getElem_mem hlt)
  unfold uP at w
  simp only[Bool.or_eq_true,bA,decide_eq_true_eq] at w
  by_cases hc:65≤(l[i]'hlt).toNat
  ·exact .on (zya h ⟨⟨l⟩⟩ i n hlt (by show l.length < 4000;omega) lt (by rw[hb];exact dT (by omega)) (by rw[hb];exact dT (by omega))) L
  ·exact .on (zyb h ⟨⟨l⟩⟩ i n hlt (by show l.length < 4000;omega) lt (by rw[hb];exact dF (by omega)) (by rw[hb];exact dT (by omega)) (by rw[hb];exact dT (by omega))) L
theorem zmA{l:Bsy}(w:zdI l)(h:Heap)(n:Nat)(hn:1≤n):RD n 169 [.string ⟨⟨l⟩⟩] h=some (.bool true,h):=by
 obtain⟨n,rfl⟩:=zs_ n
 obtain⟨hl,c,r,rfl,h1,h2,h3⟩:=w
 have hb:bAt ⟨⟨c::r⟩⟩ 0=c.toNat:=rfl
 have hw:∀ b∈c::r,uP b=true:=fun b hb=>by
  rcases List.mem_cons.1 hb with rfl|hb
  ·unfold uP;simp[h1,h2]
  ·exact List.all_eq_true.1 h3 b hb
 have e:(⟨⟨c::r⟩⟩:BA).data.toList.length=(c::r).length:=rfl
 exact zx9 h ⟨⟨c::r⟩⟩ n (by rw[e,lC];omega) (by rw[e];omega) (by rw[e];exact dF (by rw[lC];omega)) (by rw[e];exact dF (by omega)) (by rw[hb];exact dF (by omega)) (by rw[hb];exact dF (by omega))
  ((zhG (c::r) n h.fh hl hw (c::r).length 0 (by omega)).fact2 (by omega) (by kernel_rfl))
theorem jf:eqV 27 (.agg #[iv 0,iv 0,.string ⟨#[]⟩]) (.agg #[iv 0,iv 0,.string ⟨#[]⟩])=some (.bool true):=by kernel_rfl
theorem qI(k:Nat)(v:Int)(s:BA):eqV 27 (.agg #[iv ((k+1:Nat):Int),iv v,.string s]) (.agg #[iv 0,iv 0,.string ⟨#[]⟩])=some (.bool false):=by kernel_rfl
theorem zl1(k:Nat)(c r' c':Int):eqV 43 (.agg #[iv ((k+1:Nat):Int),iv c,iv r',iv c']) (.agg #[iv 0,iv 0,iv 0,iv 0])=some (.bool false):=by kernel_rfl
theorem zdp{r c:Nat}(g:inG r c)(h:Heap)(n:Nat)(hn:1≤n):RD n 21 [.agg #[iv (r:Int),iv (c:Int)]] h=some (.bool true,h):=by
 have e:=zd6 r c h n hn
 have:wE r c=true:=by
  unfold wE
  obtain⟨h1,h2,h3,h4⟩:=g
  rw[dT (by omega),dT (by omega),dT (by omega),dT (by omega)];rfl
 rw[this] at e
 exact e
theorem zoA{t:Tr}(g:GT t){h:Heap}{P:Nat→Prop}{x:Hd}{r:OA}{n:Nat}(N:zc h P x r n t)(m:Nat)(hm:4≤m):RD m 133 [ndV x r n] h=some (.bool true,h):=by
 obtain⟨m,rfl⟩:∃ k,m=k+1+1:=⟨m - 2,by omega⟩
 have vg:∀ (k v:Int) (s:Bsy) (h:Heap),wV k v ⟨⟨s⟩⟩= .bool true→RD (m+1) 47 [.agg #[iv k,iv v,.string ⟨⟨s⟩⟩]] h=some (.bool true,h):=fun k v s h e=>(vi k v ⟨⟨s⟩⟩ h _ (by omega)).trans (by rw[e])
 cases g <;>(unfold zc at N;obtain⟨rfl,rfl,N⟩:=N)
 case int b hb=>exact zBh h (m+1) r b (qI 1 b ⟨#[]⟩) ja (dT (by omega)) (vg 2 b [] _ rfl)
 case text s hs=>
  refine zBe h (m+1) r s (qI 2 0 ⟨⟨s⟩⟩) ja (vg 3 0 s _ ?_)
  show(bif decide ((s.length:Int)≤200) then Value.bool true else .bool false)=_
  rw[dT (by omega)];rfl
 case bool b hb=>
  refine zBj h (m+1) r b (qI 0 b ⟨#[]⟩) ja (vg 1 b [] _ ?_)
  match b,hb with
  |0,_=>rfl
  |1,_=>rfl
 case cell a c hG=>
  have hG':=hG
  obtain⟨k,rfl⟩:∃ k,a=k+1:=⟨a - 1,by have:=hG.1;omega⟩
  exact zBf h (m+1) r _ c jf (zl1 k c 0 0) (zdp hG' _ _ (by omega)) (zj3 0 0)
 case range a c a' c' h1 h2 hr hc=>
  have h1':=h1
  obtain⟨k,rfl⟩:∃ k,a=k+1:=⟨a - 1,by have:=h1.1;omega⟩
  exact zxm h (m+1) r _ c a' c' jf (zl1 k c a' c') (zxl _ m _ c a' c' (zdp h1' _ _ (by omega)) (zdp h2 _ _ (by omega)) (dT (by omega)) (dT (by omega)))
 case neg t ht=>
  rcases N with⟨e,_⟩|⟨b,cs,es,ro,rfl,_⟩
  ·cases e
  exact zBg h (m+1) none b jf ja
 case two s x y hs hx hy=>
  rcases N with⟨e,_⟩|⟨b,cs,es,ro,rfl,_⟩
  ·cases e
  exact zBk h (m+1) none b s jf ja (zqk hs _ _ (by omega))
 case call nm l hw hl hh=>exact zBi h (m+1) r l.length nm jf ja (zmA hw _ _ (by omega)) (dT (by omega))
abbrev GrL(n:Nat):=Loops En (RD n) 35 18446744073709551616 (sub [1,1,1,1,0,1,0,0] (zp Tryz.f99))
theorem zrs(lo:Nat)(n:Nat)(hn:4≤n):∀ (k:Nat) (i:Nat) (L:List Tr) (cs:Vs) (rq:OA) (h:Heap),zo (L.drop i)=k→i≤L.length→i+k≤400→(∀ t∈L,GT t)→QR h lo rq L.length cs→ArgsC h (fun c=>c < lo) cs L→lo≤h.nx→lo≤h.wm→
  ∃ H R,R≤k+1∧GrL n [(4,.slice rq L.length L.length),(5,iv (i:Int))] h (.exit 0) [] H R∧lo≤H.wm:=by
 intro k
 induction k using Nat.strongRecOn with
 |ind k ih=>
  intro i L cs rq h hk hi hik hg Q A hlo hwm
  have hlen:L.length≤i+k:=by
   have:=zS (L.drop i)
   rw[List.length_drop] at this
   omega
  by_cases he:i=L.length
  ·exact⟨h,1,by omega,.out (zug h rq L.length i n (zE (by omega))),hwm⟩
  have hlt:i < L.length:=by omega
  obtain⟨t,ht⟩:∃ t,L[i]? =some t:=⟨L[i],List.getElem?_eq_getElem hlt⟩
  have hd:L.drop i=t::L.drop (i+1):=by
   rw[List.drop_eq_getElem_cons hlt]
   rw[List.getElem?_eq_getElem hlt] at ht
   rw[Option.some.inj ht]
  obtain⟨x,r,l,cs',hcs,N⟩:=A.at ht
  obtain⟨hl,xs,Sx,Ax,_⟩:=N.src
  have gt:=hg t (List.mem_of_getElem? ht)
  have hsz:t.size=1+zo t.kids:=by cases t;rfl
  have hks:zo (L.drop i)=t.size+zo (L.drop (i+1)):=by rw[hd];rfl
  rcases Q with⟨ql,⟨_,h0⟩|⟨q,es,rfl,hq,he',hgq⟩⟩
  ·omega
  have hkl:=zS t.kids
  obtain⟨r',h',ea,Q',nx',keep,wm'⟩:=ze3 (x:=.slice r l l) ⟨ql,.inr ⟨q,es,rfl,hq,he',hgq⟩⟩ Sx (by omega) hlo
  have A':ArgsC h' (fun c=>c < lo) (cs++xs) (L++t.kids):=ArgsC.append (ArgsC.mono (fun c o hc e=>⟨hc,(keep c hc).trans e⟩) Ax) (ArgsC.mono (fun c o hc e=>⟨hc,(keep c hc).trans e⟩) A)
  have hdk:zo ((L++t.kids).drop (i+1))=zo (L.drop (i+1))+zo t.kids:=by
   rw[List.drop_append_of_le_length (by omega),qg]
  have hll:(L++t.kids).length=L.length+l:=by rw[lA,hl]
  obtain⟨H,R,hR,LL,hw⟩:=ih (k - 1) (by omega) (i+1) (L++t.kids) (cs++xs) r' h' (by rw[hdk];omega) (by omega) (by omega) (fun u hu=>by
   rcases List.mem_append.1 hu with hu|hu
   ·exact hg u hu
   ·cases t with
    |node y ts=>exact gt.args.1 u hu) (by rw[hll];exact Q') A' (by omega) (by omega)
  rw[hll] at LL
  exact⟨H,R+1,by omega,.on (zxb h h' q L.length i (L.length+l) l n r' r x r l hlt (by omega) (zw hlt) (zcG hgq hcs) (zoA gt N n hn) (zb9 hgq hcs) ea) LL,hw⟩
theorem zou{t:Tr}(g:GT t){h:Heap}{P:Nat→Prop}{x:Hd}{r:OA}{n:Nat}(N:zc h P x r n t)(hs:t.size≤300)(hd:t.depth≤16)(m:Nat)(hm:6≤m):RD m 99 [ndV x r n] h=some (.bool true,h):=by
 obtain⟨m,rfl⟩:=zs_ m
 have K0:Kp h.fh (al h.fh 72 (ndL x r n)):=(Kp.refl _).al _ _
 have K1:Kp h.fh (al (al h.fh 72 (ndL x r n)) 72 (ndL x r n)):=K0.al _ _
 have N0:zc (al h.fh 72 (ndL x r n)) P x r n t:=zc.mono (h:=h) (fun c o hc e=>⟨hc,(K0.get c (za (h:=h) e)).trans e⟩) N
 have N1:zc (al (al h.fh 72 (ndL x r n)) 72 (ndL x r n)) (fun c=>c < h.nx) x r n t:=zc.mono (h:=h) (fun c o hc e=>⟨za e,(K1.get c (za (h:=h) e)).trans e⟩) N
 have ed:=zd9 N0 (by omega) m (by omega)
 have hp:1≤t.depth:=by cases t;unfold Tr.depth;omega
 have gq:(al (al h.fh 72 (ndL x r n)) 72 (ndL x r n)).get (h.nx+1)=some (.row 72 (ndL x r n) 0 false):=gN (h:=al h.fh 72 (ndL x r n))
 obtain⟨H,R,hR,L,hw⟩:=zrs h.nx m (by omega) t.size 0 [t] (ndL x r n) (some ⟨h.nx+1,0,none⟩) _ (by simp[zo]) (by simp) (by omega) (fun u hu=>by rw[List.mem_singleton] at hu;rw[hu];exact g)
  ⟨rfl,.inr ⟨h.nx+1,0,rfl,by omega,.inl rfl,gq⟩⟩ (by unfold ArgsC;exact⟨x,r,n,[],by rw[List.append_nil],N1,by unfold ArgsC;rfl⟩) (by show h.nx≤h.nx+1+1;omega) (nL_ _)
 exact(zA7 h H t.depth m x r n ed (dF (by omega)) (dF (by omega)) (L.fact2 (by omega) (by kernel_rfl))).trans (congrArg some (zk hw rfl))
/-! Rows. -/
theorem zhS{s:Bsy}(n:Nat){h:Heap}{q B:Nat}{r:OA}{l:Nat}(hB:h.get B=some (.row 72 (ndL (zg 5 s) r l) 0 false))(hg:h.get q=some (.row 9 zar 0 false)):∀ (rest:List (Bsy)) (i:Nat),wq.drop i=rest→s∈rest→
  ∃ H R,R≤rest.length∧Loops En (RD n) 34 18446744073709551616 (sub [1,0,1,0,1,1,1,1,1,0,1,1,0,0] (zp Tryz.f136)) [(1,pv B 0),(3,sv q 0 13 13),(4,iv (i:Int))] h .ret [(2,iv ((binR s:Nat):Int))] H R∧H.wm=h.wm
 |[],i,_,hs=>by cases hs
 |u::rest,i,hi,hs=>by
  have hlt:i < 13:=by
   rcases Nat.lt_or_ge i 13 with h1|h1
   ·exact h1
   ·rw[List.drop_eq_nil_of_le (show wq.length≤i from h1)] at hi;cases hi
  have hu:wq[i]? =some u:=by
   have:=congrArg List.head? hi
   rw[List.head?_drop] at this
   exact this
  have ld:=zdX hg hu
  have lt:=zw (a:=i) (b:=13) hlt
  by_cases e:u=s
  ·have hv:LD (al h 3 (wq.map fun o=>iv ((binR o:Nat):Int))) 3 h.nx (0+i * 1) (iv ((binR s:Nat):Int)):=zG gN C3 (by rw[Nat.zero_add,Nat.mul_one,List.head?_drop,List.getElem?_map,hu,e];rfl)
   exact⟨_,1,by simp,.ret (zzp h B q i n ⟨⟨u⟩⟩ (zg 5 s) r l (binR s) hB hlt lt ld ((zZ u s).trans (dT e)) hv),rfl⟩
  ·obtain⟨H,R,hR,L,w⟩:=zhS n hB hg rest (i+1) (by rw[← List.drop_drop,hi];rfl) (by rcases List.mem_cons.1 hs with rfl|h;exact absurd rfl e;exact h)
   exact⟨H,R+1,by rw[lC];omega,.on (zzq h B q i n ⟨⟨u⟩⟩ (zg 5 s) r l hB hlt lt ld ((zZ u s).trans (dF e))) L,w⟩
theorem zc9{t:Tr}(g:GT t){h:Heap}{P:Nat→Prop}{x:Hd}{r:OA}{n:Nat}(N:zc h P x r n t)(m:Nat)(hm:2≤m):RD m 136 [ndV x r n] h=some (iv ((rowT t:Nat):Int),h):=by
 obtain⟨m,rfl⟩:=zs_ m
 cases g <;>(unfold zc at N;obtain⟨rfl,rfl,N⟩:=N)
 case int b hb=>exact znf h m (zz 2 b []) r 0
 case text s hs=>exact znf h m (zz 3 0 s) r 0
 case bool b hb=>exact znf h m (zz 1 b []) r 0
 case cell a c hG=>exact zzi h m (zF 2 a c 0 0) r 0
 case range a c a' c' h1 h2 hr hc=>exact zzh h m (zF 3 a c a' c') r 0
 case neg t ht=>exact zzg h m (zg 4 []) r _
 case two s x y hs hx hy=>
  have e:=zh1 (al h.fh 72 (ndL (zg 5 s) r [x,y].length)) m (by omega)
  obtain⟨H,R,hR,L,w⟩:=zhS (s:=s) m (h:={al (al h.fh 72 (ndL (zg 5 s) r [x,y].length)).fh 9 zar with wm:=min h.nx (h.nx+1)}) (q:=h.nx+1) (B:=h.nx) (r:=r) (l:=[x,y].length) (gA (h:=(al h.fh 72 (ndL (zg 5 s) r [x,y].length)).fh) (gN (h:=h.fh))) (gN (h:=(al h.fh 72 (ndL (zg 5 s) r [x,y].length)).fh)) wq 0 rfl hs
  refine(zzf h _ H (h.nx+1) (binR s) m (zg 5 s) r _ e (L.fact2 (by have:wq.length=13:=rfl;omega) (by kernel_rfl))).trans (congrArg some (zk ?_ rfl))
  rw[w]
  show h.nx≤min h.nx (h.nx+1)
  omega
 case call nm l hw hl hh=>exact zze h m (zg 6 nm) r _
/-! Quotes. -/
theorem zrJ{l r:Bsy}{i:Nat}{b:UInt8}(h:l.drop i=b::r):zv ⟨⟨l⟩⟩ (i:Int) ((i:Int)+1)=⟨⟨[b]⟩⟩:=by
 unfold zv
 rw[show((i:Int)).toNat=i from Int.toNat_natCast i,show((i:Int)+1).toNat=i+1 by omega,show(⟨⟨l⟩⟩:BA).data.toList=l from rfl,h,show i+1 - i=1 by omega]
 rfl
theorem zeG(l:Bsy)(hl:l.length≤1000)(n:Nat)(h:Heap):∀ (rest:Bsy) (i:Nat) (acc:Bsy),l.drop i=rest→acc.length+2 * rest.length≤5000→
  Loops En (RD n) 26 18446744073709551616 (sub [1,1,0,1,0,0] (zp Tryz.f134)) [(0,.string ⟨⟨l⟩⟩),(3,.string ⟨⟨acc⟩⟩),(4,iv (i:Int))] h (.exit 0) [(3,.string ⟨⟨acc++rest.flatMap fun b=>if b.toNat=34 then[34,34] else[b]⟩⟩)] h (rest.length+1)
 |[],i,acc,hi,ha=>by
  rw[List.flatMap_nil,List.append_nil]
  exact .out (ztt h ⟨⟨l⟩⟩ ⟨⟨acc⟩⟩ i n (zE (a:=i) (b:=l.length) (by have:=List.drop_eq_nil_iff.1 hi;omega)))
 |b::rest,i,acc,hi,ha=>by
  have hlt:i < l.length:=jt (s:=⟨⟨l⟩⟩) hi
  have hb:bAt ⟨⟨l⟩⟩ (i:Int)=b.toNat:=wD ⟨⟨l⟩⟩ i b rest hi
  have hn:l.drop (i+1)=rest:=by rw[← List.drop_drop,hi];rfl
  have hc:=zrJ hi
  have lt:=zw (a:=i) (b:=l.length) hlt
  rw[lC] at ha
  rw[List.flatMap_cons]
  by_cases h34:b.toNat=34
  ·have hb34:b=34:=UInt8.toNat_inj.1 h34
   have L:=zeG l hl n h rest (i+1) (acc++[34,34]) hn (by rw[lA];show acc.length+2+_≤_;omega)
   have e:=zzM h ⟨⟨l⟩⟩ ⟨⟨acc⟩⟩ i n hlt (by show l.length < 4000;omega) (by rw[bsz];omega) (by rw[hc,bsz];simp) lt (by rw[hb,h34];rfl)
   rw[hc,hb34] at e
   rw[if_pos h34,← List.append_assoc]
   have ea:((⟨⟨acc⟩⟩:BA)++⟨#[34]⟩)++⟨⟨[34]⟩⟩=⟨⟨acc++[34,34]⟩⟩:=by
    show ByteArray.mk ⟨(acc++[34])++[34]⟩=_
    rw[List.append_assoc];rfl
   rw[ea] at e
   exact .on e L
  ·have L:=zeG l hl n h rest (i+1) (acc++[b]) hn (by rw[lA];show acc.length+1+_≤_;omega)
   have e:=zzO h ⟨⟨l⟩⟩ ⟨⟨acc⟩⟩ i n hlt (by show l.length < 4000;omega) (by rw[bsz];omega) (by rw[hc,bsz];simp) lt (by rw[hb];exact neK (k:=34) h34)
   rw[hc] at e
   rw[if_neg h34,← List.append_assoc]
   have ea:(⟨⟨acc⟩⟩:BA)++⟨⟨[b]⟩⟩=⟨⟨acc++[b]⟩⟩:=rfl
   rw[ea] at e
   exact .on e L
theorem znr(l:Bsy)(hl:l.length≤1000)(h:Heap)(n:Nat)(hn:1≤n):RD n 134 [.string ⟨⟨l⟩⟩] h=some (.string ⟨⟨yZ l⟩⟩,h):=by
 obtain⟨n,rfl⟩:=zs_ n
 have hq:=zdf l
 have L:=zeG l hl n h.fh l 0 [34] rfl (by simp only[lC,lN];omega)
 exact zzN h ⟨⟨l⟩⟩ _ n (by unfold yZ at hq;simp only[lC,lA,lN] at hq;rw[bsz];simp only[lA,lC,lN];omega) (L.fact2 (by omega) (by kernel_rfl))
end Go.PanE
