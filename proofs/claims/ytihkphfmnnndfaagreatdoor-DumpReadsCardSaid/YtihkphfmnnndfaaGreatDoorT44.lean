/-
 Part 44 of the proof of Rows.DumpReadsCardSaid: Sources: the laws of both readers, whole.
 Lines: the laws of both readers; DumpReads is true.
 No conditions.
-/
import Derived.Test.YtihkphfmnnndfaaGreatDoorT39
import Derived.Test.YtihkphfmnnndfaaGreatDoorT43
namespace Go.PanE
open Go.Proofs
abbrev Z14:List Value:=[iv 0,iv 0,iv 0,.string ⟨#[]⟩,iv 0,iv 0,iv 0,.string ⟨#[]⟩,iv 0,iv 0,iv 0,iv 0,.string ⟨#[]⟩,.slice none 0 0]
theorem kp_of{h H:Heap}{k:Nat}(g:∀ c,c < h.nx→H.get c=h.get c)(nx:H.nx=h.nx+k)(wm:H.wm≤h.fresh.wm):Kp h.fresh H:=⟨by show h.nx≤H.nx;omega,g,wm⟩
theorem cut1(b:UInt8)(t:List UInt8):cutS ⟨⟨b::t⟩⟩ 1 ((⟨⟨b::t⟩⟩:ByteArray).data.toList.length:Nat)=⟨⟨t⟩⟩:=cut_from (b::t) 1
theorem read49{m:Int}(l:List UInt8)(hl:l.length≤3900)(h:Heap)(n:Nat)(hn:1501≤n)(G:Gl m h):ResS h (RD n 49 [.string ⟨⟨l⟩⟩] h) (readM l).1 (readM l).2:=by
 obtain⟨n,rfl⟩:∃ m,n=m+1:=⟨n - 1,by omega⟩
 have hG:=G.nx
 have g1:=h0_1 G
 have hl4:(⟨⟨l⟩⟩:ByteArray).data.toList.length < 4000:=by show l.length < 4000;omega
 unfold readM
 by_cases h300:300 < l.length
 ·rw[if_pos h300]
  obtain⟨H,e,g,nx,wm⟩:=so_long h ⟨⟨l⟩⟩ n g1 (by omega) (gt_dec (a:=l.length) (b:=300) h300)
  exact ress_lg e src0 (kp_of g nx wm)
 rw[if_neg h300]
 have e3:decide (((⟨⟨l⟩⟩:ByteArray).data.toList.length:Int)>300)=false:=gt_dec' (a:=l.length) (b:=300) h300
 cases l with
 |nil=>
  obtain⟨H,e,g,nx,wm⟩:=so_emp h ⟨⟨[]⟩⟩ n e3 rfl
  exact ress_nil e src0 (kp_of g nx wm)
 |cons b t=>
  have e0:((⟨⟨b::t⟩⟩:ByteArray).data.toList==(⟨#[]⟩:ByteArray).data.toList)=false:=rfl
  have hpos:0 < (⟨⟨b::t⟩⟩:ByteArray).data.toList.length:=by show 0 < (b::t).length;simp
  have hb0:bAt ⟨⟨b::t⟩⟩ 0=b.toNat:=rfl
  rw[List.length_cons] at hl h300
  simp only
  by_cases h61:b.toNat=61
  ·rw[if_pos h61]
   have K0:Kp h.fresh (al h.fresh 74 Z14):=(Kp.refl _).al _ _
   have g0:(al h.fresh 74 Z14).get h.nx=some (.row 74 Z14 0 false):=gN (h:=h.fresh)
   have n0:(al h.fresh 74 Z14).nx=h.nx+1:=rfl
   obtain⟨v,e,h1,e1,⟨k,a,c,st,y,r,l',rfl⟩,K1,EA⟩:=parsed72 (m:=m) ⟨⟨t⟩⟩ (al h.fresh 74 Z14) n (by omega) (G.fresh.alloc _)
   have n1:=K1.nx
   rw[n0] at n1
   have gh:=(K1.get h.nx (by rw[n0];omega)).trans g0
   rw[← cut1 b t] at e1
   obtain⟨H,eH,g,nx,wm,wp⟩:=so_eq h h1 ⟨⟨b::t⟩⟩ e n k a c st y r l' gh (by omega) hpos hl4 e3 e0 (by rw[hb0];exact eqK (k:=61) h61) e1
   have S:IsSrc (srV k a c st y r l'):=⟨k,a,c,st,y,r,l',rfl⟩
   have KH:=kp_own (K0.trans K1) g (Nat.le_refl _) (by omega) wp
   show ResS h _ (pM t).1 (pM t).2
   rcases EA with⟨hc,ha,rfl⟩|⟨hc,ha,rfl⟩|⟨q,w,rfl,hq,gq⟩
   ·rw[show(pM t).1=0 from ha,show(pM t).2=0 from hc];exact ress_nil eH S KH
   ·rw[show(pM t).1=0 from ha,show(pM t).2=2 from hc];exact ress_lg eH S KH
   ·rw[n0] at hq
    exact ress_er eH S KH (by omega) ((g q (Heap.lt_of_get gq) (by omega)).trans gq)
  rw[if_neg h61]
  have e61:(((bAt ⟨⟨b::t⟩⟩ 0:Int):Int)==61)=false:=by rw[hb0];exact neK (k:=61) h61
  by_cases hT:b::t=[84,82,85,69]
  ·rw[if_pos hT]
   obtain⟨H,e,g,nx,wm⟩:=so_T h ⟨⟨b::t⟩⟩ n hpos hl4 e3 e0 e61 ((beqL (b::t) [84,82,85,69]).trans (decide_eq_true hT))
   exact ress_nil e ⟨1,1,1,⟨#[]⟩,hdZ,none,0,rfl⟩ (kp_of g nx wm)
  rw[if_neg hT]
  have eT:=(beqL (b::t) [84,82,85,69]).trans (decide_eq_false hT)
  by_cases hF:b::t=[70,65,76,83,69]
  ·rw[if_pos hF]
   obtain⟨H,e,g,nx,wm⟩:=so_F h ⟨⟨b::t⟩⟩ n hpos hl4 e3 e0 e61 eT ((beqL (b::t) [70,65,76,83,69]).trans (decide_eq_true hF))
   exact ress_nil e ⟨1,1,0,⟨#[]⟩,hdZ,none,0,rfl⟩ (kp_of g nx wm)
  rw[if_neg hF]
  have eF:=(beqL (b::t) [70,65,76,83,69]).trans (decide_eq_false hF)
  obtain⟨a,ok,eN,hN⟩:=num73 (G.fresh.alloc (.row 74 Z14 0 false)) (b::t) (by rw[List.length_cons];omega) n (by omega)
  cases ok with
  |true=>
   have h20:¬ 20 < (b::t).length:=fun h=>by have:=hN h;cases this
   rw[List.length_cons] at h20
   obtain⟨H,e,g,nx,wm⟩:=so_num h ⟨⟨b::t⟩⟩ a n hpos hl4 e3 e0 e61 eT eF eN
   have:¬ 200 < (if b.toNat=39 then t else b::t).length:=by
    split
    ·omega
    ·rw[List.length_cons];omega
   rw[if_neg this]
   exact ress_nil e ⟨1,2,a,⟨#[]⟩,hdZ,none,0,rfl⟩ (kp_of g nx wm)
  |false=>
   by_cases h39:b.toNat=39
   ·have e39:(((bAt ⟨⟨b::t⟩⟩ 0:Int):Int)==39)=true:=by rw[hb0];exact eqK (k:=39) h39
    rw[if_pos h39]
    have eo:=of_law t (al h.fresh 74 Z14) n (by omega)
    rw[← cut1 b t] at eo
    by_cases h200:200 < t.length
    ·rw[if_neg (by omega)] at eo
     rw[if_pos h200]
     obtain⟨H,e,g,nx,wm⟩:=so_q4 h ⟨⟨b::t⟩⟩ a n hpos hl4 g1 (by omega) e3 e0 e61 eT eF eN e39 eo
     exact ress_lg e src0 (kp_of g nx wm)
    ·rw[if_pos (by omega)] at eo
     rw[if_neg h200]
     obtain⟨H,e,g,nx,wm⟩:=so_q3 h ⟨⟨b::t⟩⟩ _ a n hpos hl4 e3 e0 e61 eT eF eN e39 eo
     exact ress_nil e ⟨1,3,0,_,hdZ,none,0,rfl⟩ (kp_of g nx wm)
   ·have e39:(((bAt ⟨⟨b::t⟩⟩ 0:Int):Int)==39)=false:=by rw[hb0];exact neK (k:=39) h39
    rw[if_neg h39]
    have eo:=of_law (b::t) (al h.fresh 74 Z14) n (by omega)
    by_cases h200:200 < (b::t).length
    ·rw[if_neg (by omega)] at eo
     rw[if_pos h200]
     obtain⟨H,e,g,nx,wm⟩:=so_n4 h ⟨⟨b::t⟩⟩ a n hpos hl4 g1 (by omega) e3 e0 e61 eT eF eN e39 eo
     exact ress_lg e src0 (kp_of g nx wm)
    ·rw[if_pos (by omega)] at eo
     rw[if_neg h200]
     obtain⟨H,e,g,nx,wm⟩:=so_n3 h ⟨⟨b::t⟩⟩ ⟨⟨b::t⟩⟩ a n hpos hl4 e3 e0 e61 eT eF eN e39 eo
     exact ress_nil e ⟨1,3,0,⟨⟨b::t⟩⟩,hdZ,none,0,rfl⟩ (kp_of g nx wm)
theorem told_law{m:Int}{h:Heap}{lo at_ c:Nat}{e:Value}(G:Gl m h)(EA:ErrAt h lo e at_ c)(n:Nat)(hn:2≤n):RD n 50 [e] h=some (.tuple #[iv ((at_:Nat):Int),iv ((c:Nat):Int)],h):=by
 obtain⟨n,rfl⟩:∃ m,n=m+1:=⟨n - 1,by omega⟩
 have g0:(al h.fresh 149 [.pointer none]).get h.nx=some (.row 149 [.pointer none] 0 false):=gN (h:=h.fresh)
 have GA:Gl m (al h.fresh 149 [.pointer none]):=G.fresh.alloc _
 rcases EA with⟨rfl,rfl,rfl⟩|⟨rfl,rfl,rfl⟩|⟨q,w,rfl,hq,gq⟩
 ·rw[to_nil h n (h0_1 G) (by have:=G.nx;omega) (as_nil _ _ n (by omega)) (is_nil_law _ n (by omega)),finish_low (Nat.le_refl _) rfl];rfl
 ·rw[to_lg h n (h0_1 G) (by have:=G.nx;omega) (as_no GA h.nx _ g0 n (by omega)) (is_same_law _ n (by omega)),finish_low (Nat.le_refl _) rfl];rfl
 ·have hqn:=Heap.lt_of_get gq
  have ea:=as_src GA q h.nx _ g0 n (by omega)
  have hl:h.nx < (al h.fresh 149 [.pointer none]).nx:=Nat.lt_succ_self _
  rw[to_w h _ q at_ c n w (gP hl) (gO (gA (h:=h.fresh) gq) hl (by omega)) ea,finish_low (by rw[Heap.wm_put];show h.nx≤min h.nx h.nx;omega) rfl]
def ResT(h:Heap)(X:Option (Value×Heap))(at_ c:Nat):Prop:=∃ v h',X=some (.tuple #[v,iv ((at_:Nat):Int),iv ((c:Nat):Int)],h')∧IsSrc v∧Kp h h'
theorem read29{m:Int}(l:List UInt8)(hl:l.length≤3900)(h:Heap)(n:Nat)(hn:1502≤n)(G:Gl m h):ResT h (RD n 29 [.string ⟨⟨l⟩⟩] h) (readM l).1 (readM l).2:=by
 obtain⟨n,rfl⟩:∃ m,n=m+1:=⟨n - 1,by omega⟩
 have hG:=G.nx
 have K0:Kp h.fresh (al h.fresh 74 Z14):=(Kp.refl _).al _ _
 have g0:(al h.fresh 74 Z14).get h.nx=some (.row 74 Z14 0 false):=gN (h:=h.fresh)
 have n0:(al h.fresh 74 Z14).nx=h.nx+1:=rfl
 obtain⟨v,e,h1,e1,⟨k,a,c,st,y,r,l',rfl⟩,K1,EA⟩:=read49 (m:=m) l hl (al h.fresh 74 Z14) n (by omega) (G.fresh.alloc _)
 have n1:=K1.nx
 rw[n0] at n1
 have gh:=(K1.get h.nx (by rw[n0];omega)).trans g0
 have G1:Gl m h1:=⟨by omega,fun c hc=>(K1.get c (by rw[n0];omega)).trans ((G.fresh.alloc (.row 74 Z14 0 false)).get c hc)⟩
 have K2:Kp h1 (pt (al h1 74 Z14) h1.nx 74 [iv k,iv a,iv c,.string st,iv y.k,iv y.a,iv y.b,.string y.t,iv y.r0,iv y.c0,iv y.r1,iv y.c1,.string y.nm,.slice r l' l']):=((Kp.refl h1).al _ _).pt _ _ (Nat.le_refl _) (Nat.lt_succ_self _)
 have G2:Gl m (pt (al h1 74 Z14) h1.nx 74 [iv k,iv a,iv c,.string st,iv y.k,iv y.a,iv y.b,.string y.t,iv y.r0,iv y.c0,iv y.r1,iv y.c1,.string y.nm,.slice r l' l']):=⟨by show 14≤h1.nx+1;omega,fun c hc=>(K2.get c (by omega)).trans (G1.get c hc)⟩
 have EA2:ErrAt (pt (al h1 74 Z14) h1.nx 74 [iv k,iv a,iv c,.string st,iv y.k,iv y.a,iv y.b,.string y.t,iv y.r0,iv y.c0,iv y.r1,iv y.c1,.string y.nm,.slice r l' l']) (al h.fresh 74 Z14).nx e (readM l).1 (readM l).2:=by
  rcases EA with x|x|⟨q,w,rfl,hq,gq⟩
  ·exact .inl x
  ·exact .inr (.inl x)
  ·exact .inr (.inr ⟨q,w,rfl,hq,(K2.get q (Heap.lt_of_get gq)).trans gq⟩)
 obtain⟨H,eH,g,nx,wm,wp⟩:=sr_p h h1 ⟨⟨l⟩⟩ e (readM l).1 (readM l).2 n k a c st y r l' gh (by omega) e1 (told_law G2 EA2 n (by omega))
 exact⟨_,_,PanE.fin eH,⟨k,a,c,st,y,r,l',rfl⟩,(kp_own (K0.trans K1) g (Nat.le_refl _) (by omega) wp).fin⟩
theorem rest_of{h H:Heap}{X:Option (Value×Heap)}{v:Value}{at_ c:Nat}(e:X=some (finish h (.tuple #[v,iv ((at_:Nat):Int),iv ((c:Nat):Int)]) H))(S:IsSrc v)(K:Kp h.fresh H):ResT h X at_ c:=⟨_,_,PanE.fin e,S,K.fin⟩
theorem read31{m:Int}(l:List UInt8)(hl:l.length≤3900)(h:Heap)(n:Nat)(hn:1502≤n)(G:Gl m h):ResT h (RD n 31 [.string ⟨⟨l⟩⟩] h) (readM l).1 (readM l).2:=by
 obtain⟨n,rfl⟩:∃ m,n=m+1:=⟨n - 1,by omega⟩
 have hG:=G.nx
 have hl4:(⟨⟨l⟩⟩:ByteArray).data.toList.length < 4000:=by show l.length < 4000;omega
 unfold readM
 by_cases h300:300 < l.length
 ·rw[if_pos h300]
  obtain⟨H,e,g,nx,wm⟩:=rs_long h ⟨⟨l⟩⟩ n (gt_dec (a:=l.length) (b:=300) h300)
  exact rest_of (at_:=0) (c:=2) e src0 (kp_of g nx wm)
 rw[if_neg h300]
 have e3:decide (((⟨⟨l⟩⟩:ByteArray).data.toList.length:Int)>300)=false:=gt_dec' (a:=l.length) (b:=300) h300
 cases l with
 |nil=>
  obtain⟨H,e,g,nx,wm⟩:=rs_emp h ⟨⟨[]⟩⟩ n e3 rfl
  exact rest_of (at_:=0) (c:=0) e src0 (kp_of g nx wm)
 |cons b t=>
  have e0:((⟨⟨b::t⟩⟩:ByteArray).data.toList==(⟨#[]⟩:ByteArray).data.toList)=false:=rfl
  have hpos:0 < (⟨⟨b::t⟩⟩:ByteArray).data.toList.length:=by show 0 < (b::t).length;simp
  have hb0:bAt ⟨⟨b::t⟩⟩ 0=b.toNat:=rfl
  rw[List.length_cons] at hl h300
  simp only
  by_cases h61:b.toNat=61
  ·rw[if_pos h61]
   have K0:Kp h.fresh (al h.fresh 80 Z14):=(Kp.refl _).al _ _
   have g0:(al h.fresh 80 Z14).get h.nx=some (.row 80 Z14 0 false):=gN (h:=h.fresh)
   have n0:(al h.fresh 80 Z14).nx=h.nx+1:=rfl
   have e61:(((bAt ⟨⟨b::t⟩⟩ 0:Int):Int)==61)=true:=by rw[hb0];exact eqK (k:=61) h61
   obtain⟨v1,h1,e1,K1,R1⟩:=parse2_law (adrB m) ⟨⟨t⟩⟩ (al h.fresh 80 Z14) n (by omega) (G.fresh.alloc _)
   have n1:=K1.nx
   rw[n0] at n1
   have gh:=(K1.get h.nx (by rw[n0];omega)).trans g0
   rw[← cut1 b t] at e1
   cases hp:parseM adr t with
   |ok tr k=>
    have R1':∃ x r l,v1= .tuple #[ndV x r l,iv 0,iv 0]∧NodeI h1 (al h.fresh 80 Z14).nx h1.nx x r l tr:=by
     have:parseM adr (⟨⟨t⟩⟩:ByteArray).data.toList= .ok tr k:=hp
     rw[this] at R1
     exact R1
    obtain⟨x,r,l',rfl,_⟩:=R1'
    obtain⟨H,e,g,nx,_,wm⟩:=rs_ok h h1 ⟨⟨b::t⟩⟩ 0 0 n x r l' gh (by omega) hpos hl4 e3 e0 e61 e1 rfl
    exact rest_of (at_:=0) (c:=0) e ⟨2,0,0,⟨#[]⟩,x,r,l',rfl⟩ (kp_own (K0.trans K1) g (Nat.le_refl _) (by omega) wm)
   |err p c=>
    have R1':v1= .tuple #[z72V,iv (p:Int),iv (c:Int)]:=by
     have:parseM adr (⟨⟨t⟩⟩:ByteArray).data.toList= .err p c:=hp
     rw[this] at R1
     exact R1
    obtain⟨hc,hp3⟩:=parseM_er hp
    have e1':RD n 52 [.string (cutS ⟨⟨b::t⟩⟩ 1 ((⟨⟨b::t⟩⟩:ByteArray).data.toList.length:Nat))] (al h.fresh 80 Z14)=some (.tuple #[ndV hdZ none 0,iv ((p:Nat):Int),iv ((c:Nat):Int)],h1):=by rw[e1,R1'];rfl
    obtain⟨H,e,g,nx,_,wm⟩:=rs_e h h1 ⟨⟨b::t⟩⟩ p c n hdZ none 0 gh (by omega) hpos hl4 (by omega) e3 e0 e61 e1' (congrArg (! ·) (neK (k:=0) hc))
    exact rest_of (at_:=p+1) (c:=c) e src0 (kp_own (K0.trans K1) g (Nat.le_refl _) (by omega) wm)
  rw[if_neg h61]
  have e61:(((bAt ⟨⟨b::t⟩⟩ 0:Int):Int)==61)=false:=by rw[hb0];exact neK (k:=61) h61
  by_cases hT:b::t=[84,82,85,69]
  ·rw[if_pos hT]
   have eT:=(beqL (b::t) [84,82,85,69]).trans (decide_eq_true hT)
   obtain⟨H,e,g,nx,wm⟩:=rs_T h ⟨⟨b::t⟩⟩ n hpos hl4 e3 e0 e61 eT eT
   exact rest_of (at_:=0) (c:=0) e ⟨1,1,1,⟨#[]⟩,hdZ,none,0,rfl⟩ (kp_of g nx wm)
  rw[if_neg hT]
  have eT:=(beqL (b::t) [84,82,85,69]).trans (decide_eq_false hT)
  by_cases hF:b::t=[70,65,76,83,69]
  ·rw[if_pos hF]
   obtain⟨H,e,g,nx,wm⟩:=rs_F h ⟨⟨b::t⟩⟩ n hpos hl4 e3 e0 e61 eT ((beqL (b::t) [70,65,76,83,69]).trans (decide_eq_true hF)) eT
   exact rest_of (at_:=0) (c:=0) e ⟨1,1,0,⟨#[]⟩,hdZ,none,0,rfl⟩ (kp_of g nx wm)
  rw[if_neg hF]
  have eF:=(beqL (b::t) [70,65,76,83,69]).trans (decide_eq_false hF)
  obtain⟨a,ok,eN,_,_,hN,_⟩:=num2_law (b::t) (by rw[List.length_cons];omega) (al h.fresh 80 Z14) n (by omega)
  cases ok with
  |true=>
   have h20:¬ 20 < (b::t).length:=fun h=>by have:=hN h;cases this
   rw[List.length_cons] at h20
   obtain⟨H,e,g,nx,wm⟩:=rs_num h ⟨⟨b::t⟩⟩ a n hpos hl4 e3 e0 e61 eT eF eN
   have:¬ 200 < (if b.toNat=39 then t else b::t).length:=by
    split
    ·omega
    ·rw[List.length_cons];omega
   rw[if_neg this]
   exact rest_of (at_:=0) (c:=0) e ⟨1,2,a,⟨#[]⟩,hdZ,none,0,rfl⟩ (kp_of g nx wm)
  |false=>
   by_cases h39:b.toNat=39
   ·have e39:(((bAt ⟨⟨b::t⟩⟩ 0:Int):Int)==39)=true:=by rw[hb0];exact eqK (k:=39) h39
    rw[if_pos h39]
    by_cases h200:200 < t.length
    ·rw[if_pos h200]
     obtain⟨H,e,g,nx,wm⟩:=rs_ql h ⟨⟨b::t⟩⟩ a n hpos hl4 e3 e0 e61 eT eF eN e39 (by rw[cut1];exact gt_dec (a:=t.length) (b:=200) h200)
     exact rest_of (at_:=0) (c:=2) e src0 (kp_of g nx wm)
    ·rw[if_neg h200]
     obtain⟨H,e,g,nx,wm⟩:=rs_qt h ⟨⟨b::t⟩⟩ a n hpos hl4 e3 e0 e61 eT eF eN e39 (by rw[cut1];exact gt_dec' (a:=t.length) (b:=200) h200)
     exact rest_of (at_:=0) (c:=0) e ⟨1,3,0,_,hdZ,none,0,rfl⟩ (kp_of g nx wm)
   ·have e39:(((bAt ⟨⟨b::t⟩⟩ 0:Int):Int)==39)=false:=by rw[hb0];exact neK (k:=39) h39
    rw[if_neg h39]
    by_cases h200:200 < (b::t).length
    ·rw[if_pos h200]
     obtain⟨H,e,g,nx,wm⟩:=rs_nl h ⟨⟨b::t⟩⟩ a n hpos hl4 e3 e0 e61 eT eF eN e39 (gt_dec (a:=(b::t).length) (b:=200) h200)
     exact rest_of (at_:=0) (c:=2) e src0 (kp_of g nx wm)
    ·rw[if_neg h200]
     obtain⟨H,e,g,nx,wm⟩:=rs_nt h ⟨⟨b::t⟩⟩ a n hpos hl4 e3 e0 e61 eT eF eN e39 (gt_dec' (a:=(b::t).length) (b:=200) h200)
     exact rest_of (at_:=0) (c:=0) e ⟨1,3,0,_,hdZ,none,0,rfl⟩ (kp_of g nx wm)
end Go.PanE
namespace Go.PanE
open Go.Proofs
theorem orcD_27:orcD 27=some orc27:=by kernel_rfl
theorem orcD_6:orcD 6=some orc6:=by
 unfold orcD
 rfl
theorem h0_two{m:Int}{h:Heap}(G:Gl m h):∃ x,h.get 2=some (.row 3 [iv x] 0 true):=by
 rw[G.get 2 (by decide),h0_get,if_pos (by decide)]
 exact⟨_,rfl⟩
theorem cut27{m:Int}{h:Heap}(G:Gl m h)(l:List UInt8)(hl:l.length≤4000)(n:Nat)(hn:1≤n):
  RD n 27 [.string ⟨⟨l⟩⟩,.string ⟨#[32]⟩] h=some (.tuple #[.string ⟨⟨(if spK l=l.length then l else l.take (spK l))⟩⟩,.string ⟨⟨(if spK l=l.length then[] else l.drop (spK l+1))⟩⟩,.bool (decide (¬ spK l=l.length))],h):=by
 obtain⟨n,rfl⟩:∃ m,n=m+1:=⟨n - 1,by omega⟩
 obtain⟨x,g2⟩:=h0_two G
 have hb:Nat.blt (⟨⟨l⟩⟩:ByteArray).size 4294967281=true:=by
  have:(⟨⟨l⟩⟩:ByteArray).size < 4294967281:=by rw[ba_size];omega
  simpa using this
 show runA En orcD (drawn En) 5000 (n+1) 27 _ h=_
 simp only[runA,orcD_27,orc27,g2,hb,cond_true]
 rw[cut_sp]
 by_cases hk:spK l=l.length
 ·rw[if_pos hk,if_pos hk,if_pos hk,decide_eq_false (by omega)]
 ·rw[if_neg hk,if_neg hk,if_neg hk,decide_eq_true hk]
abbrev Z8:List Value:=[iv 0,iv 0,iv 0,iv 0,iv 0,iv 0,iv 0,.string ⟨#[]⟩]
def liV(x:Ed×Nat×Nat):Value:=.tuple #[edV x.1,iv ((x.2.1:Nat):Int),iv ((x.2.2:Nat):Int)]
theorem readM_le{l:List UInt8}:(readM l).1≤301:=by
 unfold readM
 split
 ·exact Nat.zero_le _
 ·split
  ·exact Nat.zero_le _
  ·split
   ·split
    next p c hp=>have:=(parseM_er hp).2;show p+1≤301;omega
    next=>exact Nat.zero_le _
   ·split
    ·exact Nat.zero_le _
    ·split
     ·exact Nat.zero_le _
     ·split <;>(split <;>exact Nat.zero_le _)
def ResL(h:Heap)(X:Option (Value×Heap))(x:Ed×Nat×Nat):Prop:=∃ h',X=some (liV x,h')∧Kp h h'
theorem resl_of{h H:Heap}{X:Option (Value×Heap)}{x:Ed×Nat×Nat}(e:X=some (finish h (liV x) H))(K:Kp h.fresh H):ResL h X x:=⟨_,PanE.fin e,K.fin⟩
theorem line13{m:Int}(l:List UInt8)(hl:l.length≤3000)(h:Heap)(n:Nat)(hn:1503≤n)(G:Gl m h):ResL h (RD n 13 [.string ⟨⟨l⟩⟩] h) (lineM l):=by
 obtain⟨n,rfl⟩:∃ m,n=m+1:=⟨n - 1,by omega⟩
 have hG:=G.nx
 have K0:Kp h.fresh (al h.fresh 45 Z8):=(Kp.refl _).al _ _
 have g0:(al h.fresh 45 Z8).get h.nx=some (.row 45 Z8 0 false):=gN (h:=h.fresh)
 have n0:(al h.fresh 45 Z8).nx=h.nx+1:=rfl
 have G0:Gl m (al h.fresh 45 Z8):=G.fresh.alloc _
 have e27:=cut27 G0 l (by omega) n (by omega)
 have hk:=spK_le l
 unfold lineM
 by_cases hs:spK l=l.length
 ·rw[if_pos hs,if_pos hs,decide_eq_false (by omega)] at e27
  rw[if_pos hs]
  exact resl_of (x:=(edZ,0,320)) (dr_no h ⟨⟨l⟩⟩ _ _ n e27) (K0.pt (b:=h.nx) _ _ (Nat.le_refl _) (Nat.lt_succ_self _))
 rw[if_neg hs,if_neg hs,decide_eq_true hs] at e27
 rw[if_neg hs]
 have e28:=(adrA m).2 (l.take (spK l)) (al h.fresh 45 Z8) n (by omega) G0 (by rw[List.length_take];omega)
 have K1:∀ a c,Kp (al h.fresh 45 Z8) (pt (al (al h.fresh 45 Z8) 29 [iv 0,iv 0]) (h.nx+1) 29 [iv a,iv c]):=fun a c=>((Kp.refl _).al _ _).pt (b:=h.nx+1) _ _ (Nat.le_refl _) (by show h.nx+1 < h.nx+1+1;omega)
 cases ha:adr (l.take (spK l)) with
 |none=>
  rw[ha] at e28
  obtain⟨a,c,e28⟩:=e28
  exact resl_of (x:=(edZ,0,15)) (dr_na h ⟨⟨l⟩⟩ _ _ a c n e27 e28) ((K0.trans (K1 a c)).pt (b:=h.nx) _ _ (Nat.le_refl _) (by show h.nx < h.nx+1+1;omega))
 |some v=>
  obtain⟨a,c⟩:=v
  rw[ha] at e28
  have n1:(pt (al (al h.fresh 45 Z8) 29 [iv 0,iv 0]) (h.nx+1) 29 [iv ((a:Nat):Int),iv ((c:Nat):Int)]).nx=h.nx+2:=rfl
  have gx:(pt (al (al h.fresh 45 Z8) 29 [iv 0,iv 0]) (h.nx+1) 29 [iv ((a:Nat):Int),iv ((c:Nat):Int)]).get (h.nx+1)=some (.row 29 [iv ((a:Nat):Int),iv ((c:Nat):Int)] 0 false):=gP (by show h.nx+1 < h.nx+1+1;omega)
  have gy:=((K1 a c).get h.nx (by rw[n0];omega)).trans g0
  have G1:Gl m (pt (al (al h.fresh 45 Z8) 29 [iv 0,iv 0]) (h.nx+1) 29 [iv ((a:Nat):Int),iv ((c:Nat):Int)]):=⟨by rw[n1];omega,fun x hx=>((K1 a c).get x (by rw[n0];omega)).trans (G0.get x hx)⟩
  obtain⟨v,h1,e29,⟨k,sa,sb,st,y,r,l',rfl⟩,K2⟩:=read29 (l.drop (spK l+1)) (by rw[List.length_drop];omega) _ n (by omega) G1
  have n2:=K2.nx
  rw[n1] at n2
  have gh:=(K2.get h.nx (by rw[n1];omega)).trans gy
  have gh1:=(K2.get (h.nx+1) (by rw[n1];omega)).trans gx
  have KK:Kp h.fresh h1:=(K0.trans (K1 a c)).trans K2
  have KH:∀ cs ds,Kp h.fresh (pt (pt (al h1 74 Z14) h1.nx 74 cs) h.nx 45 ds):=fun cs ds=>((KK.al _ _).pt (b:=h1.nx) _ _ (by show h.nx≤h1.nx;omega) (Nat.lt_succ_self _)).pt (b:=h.nx) _ _ (Nat.le_refl _) (by show h.nx < h1.nx+1;omega)
  have hle:=readM_le (l:=l.drop (spK l+1))
  simp only
  by_cases hw:(readM (l.drop (spK l+1))).2=0
  ·rw[if_neg (by omega)]
   exact resl_of (x:=(⟨1,a,c,l.drop (spK l+1)⟩,0,0)) (dr_ok h h1 ⟨⟨l⟩⟩ _ _ a c _ _ n k sa sb st y r l' gh (by omega) (by omega) gh1 e27 e28 e29 (congrArg (! ·) (eqK (k:=0) hw))) (KH _ _)
  ·rw[if_pos hw]
   have hlt:(l.take (spK l)).length=spK l:=by rw[List.length_take];omega
   have e:=dr_e h h1 ⟨⟨l⟩⟩ _ _ a c _ _ n k sa sb st y r l' gh (by omega) (by omega) gh1 (by omega) (by show(l.take (spK l)).length < 4000;omega) e27 e28 e29 (congrArg (! ·) (neK (k:=0) hw))
   rw[show(((⟨⟨l.take (spK l)⟩⟩:ByteArray).data.toList.length:Nat):Int)+1+(((readM (l.drop (spK l+1))).1:Nat):Int)=((spK l+1+(readM (l.drop (spK l+1))).1:Nat):Int) by
    show(((l.take (spK l)).length:Nat):Int)+1+_=_
    rw[hlt];omega] at e
   exact resl_of (x:=(edZ,spK l+1+(readM (l.drop (spK l+1))).1,(readM (l.drop (spK l+1))).2)) e (KH _ _)
theorem spK_at{l:List UInt8}{k:Nat}{b:UInt8}(h:l[k]? =some b)(hk:k≤spK l):if b.toNat=32 then k=spK l else k < spK l:=by
 induction l generalizing k with
 |nil=>simp at h
 |cons c l ih=>
  unfold spK at hk ⊢
  rw[List.takeWhile_cons] at hk ⊢
  cases k with
  |zero=>
   simp only[List.getElem?_cons_zero,Option.some.injEq] at h
   subst h
   by_cases hc:c.toNat=32
   ·rw[if_pos hc,if_neg (by simpa using hc)];rfl
   ·rw[if_neg hc,if_pos (by simpa using hc),List.length_cons];omega
  |succ k=>
   rw[List.getElem?_cons_succ] at h
   by_cases hc:c.toNat=32
   ·rw[if_neg (by simpa using hc)] at hk
    simp at hk
   ·have e:(c.toNat !=32)=true:=by simpa using hc
    rw[if_pos e,List.length_cons] at hk ⊢
    have:=ih h (by unfold spK;omega)
    unfold spK at this
    split at this
    next h1=>rw[if_pos h1];omega
    next h1=>rw[if_neg h1];omega
abbrev LbL(n:Nat):=Loops En (RD n) 59 5000 (sub [1,1,0,0,0] (bodyOf Tryz.f14))
theorem lb_loop(l:List UInt8)(hl:l.length≤3000)(n B2:Nat)(h:Heap):∀ (d k:Nat),k+d=spK l→LbL n [(0,.string ⟨⟨l⟩⟩),(2,pv B2 0),(5,iv ((k:Nat):Int))] h (.exit 0) [(0,.string ⟨⟨l⟩⟩),(2,pv B2 0),(5,iv ((spK l:Nat):Int))] h (d+1):=by
 intro d
 have hle:=spK_le l
 induction d with
 |zero=>
  intro k hk
  have hk:k=spK l:=hk
  subst hk
  by_cases he:spK l=l.length
  ·exact .out (lb_end h ⟨⟨l⟩⟩ (spK l) B2 n (lt_dec' (a:=spK l) (b:=l.length) (by omega)))
  ·have hlt:spK l < l.length:=by omega
   have hb:bAt ⟨⟨l⟩⟩ ((spK l:Nat):Int)=32:=by
    have h1:=spK_at (List.getElem?_eq_getElem hlt) (Nat.le_refl _)
    unfold bAt
    split at h1
    next h2=>simp[hlt,h2]
    next h2=>omega
   exact .out (lb_sp h ⟨⟨l⟩⟩ (spK l) B2 n hlt (by show l.length < 4000;omega) (lt_dec (a:=spK l) (b:=l.length) hlt) (by rw[hb];rfl))
 |succ d ih=>
  intro k hk
  have hlt:k < l.length:=by omega
  have hb:(((bAt ⟨⟨l⟩⟩ ((k:Nat):Int):Int):Int) !=32)=true:=by
   have h1:=spK_at (List.getElem?_eq_getElem hlt) (by omega)
   split at h1
   next h2=>omega
   next h2=>
    have:bAt ⟨⟨l⟩⟩ ((k:Nat):Int)=(l[k]'hlt).toNat:=by unfold bAt;simp[hlt]
    rw[this]
    exact congrArg (! ·) (neK (k:=32) h2)
  have:=ih (k+1) (by omega)
  exact .on (lb_on h ⟨⟨l⟩⟩ k B2 n hlt (by show l.length < 4000;omega) (lt_dec (a:=k) (b:=l.length) hlt) hb) this
theorem line14{m:Int}(l:List UInt8)(hl:l.length≤3000)(h:Heap)(n:Nat)(hn:1503≤n)(G:Gl m h):ResL h (RD n 14 [.string ⟨⟨l⟩⟩] h) (lineM l):=by
 obtain⟨n,rfl⟩:∃ m,n=m+1:=⟨n - 1,by omega⟩
 have hG:=G.nx
 have K0:Kp h.fresh (al h.fresh 45 Z8):=(Kp.refl _).al _ _
 have g0:(al h.fresh 45 Z8).get h.nx=some (.row 45 Z8 0 false):=gN (h:=h.fresh)
 have n0:(al h.fresh 45 Z8).nx=h.nx+1:=rfl
 have G0:Gl m (al h.fresh 45 Z8):=G.fresh.alloc _
 have hk:=spK_le l
 have hl4:(⟨⟨l⟩⟩:ByteArray).data.toList.length < 4000:=by show l.length < 4000;omega
 have LF:=(lb_loop l hl n h.nx (al h.fresh 45 Z8) (spK l) 0 (Nat.zero_add _)).fact' (ov:=mkOv [(0,.string ⟨⟨l⟩⟩),(2,pv h.nx 0),(3,iv 0),(4,iv 0),(5,iv 0)]) (by omega) ⟨by kernel_rfl,by kernel_rfl,by kernel_rfl,trivial⟩
 unfold lineM
 by_cases hs:spK l=l.length
 ·rw[if_pos hs]
  exact resl_of (x:=(edZ,0,320)) (lr_no h _ ⟨⟨l⟩⟩ (spK l) n g0 (Nat.lt_succ_self _) LF (by rw[hs];exact eqK (k:=l.length) rfl)) (K0.pt (b:=h.nx) _ _ (Nat.le_refl _) (Nat.lt_succ_self _))
 rw[if_neg hs]
 have hlt:spK l < l.length:=by omega
 have es:((((spK l:Nat):Int):Int)==((⟨⟨l⟩⟩:ByteArray).data.toList.length:Nat))=false:=neK (k:=l.length) hs
 have e30:=(adrB m).2 (l.take (spK l)) (al h.fresh 45 Z8) n (by omega) G0 (by rw[List.length_take];omega)
 rw[← cut_to l (spK l)] at e30
 have K1:∀ a c b,Kp (al h.fresh 45 Z8) (pt (al (al h.fresh 45 Z8) 78 [iv 0,iv 0,.bool false]) (al h.fresh 45 Z8).nx 78 [iv a,iv c,.bool b]):=fun a c b=>((Kp.refl _).al _ _).pt (b:=h.nx+1) _ _ (Nat.le_refl _) (by show h.nx+1 < h.nx+1+1;omega)
 cases ha:adr (l.take (spK l)) with
 |none=>
  rw[ha] at e30
  obtain⟨a,c,e30⟩:=e30
  exact resl_of (x:=(edZ,0,15)) (lr_na h _ ⟨⟨l⟩⟩ a c (spK l) n g0 (Nat.lt_succ_self _) hlt hl4 LF es e30) ((K0.trans (K1 a c false)).pt (b:=h.nx) _ _ (Nat.le_refl _) (by show h.nx < h.nx+1+1;omega))
 |some v=>
  obtain⟨a,c⟩:=v
  rw[ha] at e30
  have n1:(pt (al (al h.fresh 45 Z8) 78 [iv 0,iv 0,.bool false]) (al h.fresh 45 Z8).nx 78 [iv ((a:Nat):Int),iv ((c:Nat):Int),.bool true]).nx=h.nx+2:=rfl
  have gx:(pt (al (al h.fresh 45 Z8) 78 [iv 0,iv 0,.bool false]) (al h.fresh 45 Z8).nx 78 [iv ((a:Nat):Int),iv ((c:Nat):Int),.bool true]).get (al h.fresh 45 Z8).nx=some (.row 78 [iv ((a:Nat):Int),iv ((c:Nat):Int),.bool true] 0 false):=gP (Nat.lt_succ_self _)
  have gy:=((K1 a c true).get h.nx (by rw[n0];omega)).trans g0
  have G1:Gl m (pt (al (al h.fresh 45 Z8) 78 [iv 0,iv 0,.bool false]) (al h.fresh 45 Z8).nx 78 [iv ((a:Nat):Int),iv ((c:Nat):Int),.bool true]):=⟨by rw[n1];omega,fun x hx=>((K1 a c true).get x (by rw[n0];omega)).trans (G0.get x hx)⟩
  obtain⟨v,h1,e31,⟨k,sa,sb,st,y,r,l',rfl⟩,K2⟩:=read31 (l.drop (spK l+1)) (by rw[List.length_drop];omega) _ n (by omega) G1
  have ecf:cutS ⟨⟨l⟩⟩ (((spK l:Nat):Int)+1) ((⟨⟨l⟩⟩:ByteArray).data.toList.length:Nat)=⟨⟨l.drop (spK l+1)⟩⟩:=cut_from l (spK l+1)
  rw[← ecf] at e31
  have n2:=K2.nx
  rw[n1] at n2
  have gh:=(K2.get h.nx (by rw[n1];omega)).trans gy
  have gh1:=(K2.get (al h.fresh 45 Z8).nx (by rw[n1,n0];omega)).trans gx
  have KK:Kp h.fresh h1:=(K0.trans (K1 a c true)).trans K2
  have KH:∀ cs ds,Kp h.fresh (pt (pt (al h1 80 Z14) h1.nx 80 cs) h.nx 45 ds):=fun cs ds=>((KK.al _ _).pt (b:=h1.nx) _ _ (by show h.nx≤h1.nx;omega) (Nat.lt_succ_self _)).pt (b:=h.nx) _ _ (Nat.le_refl _) (by show h.nx < h1.nx+1;omega)
  have hle:=readM_le (l:=l.drop (spK l+1))
  simp only
  by_cases hw:(readM (l.drop (spK l+1))).2=0
  ·rw[if_neg (by omega)]
   have e:=lr_ok h _ h1 ⟨⟨l⟩⟩ (spK l) a c _ _ n k sa sb st y r l' g0 (Nat.lt_succ_self _) hlt hl4 gh (by omega) (by rw[n0];omega) gh1 LF es e30 e31 (congrArg (! ·) (eqK (k:=0) hw))
   rw[ecf] at e
   exact resl_of (x:=(⟨1,a,c,l.drop (spK l+1)⟩,0,0)) e (KH _ _)
  ·rw[if_pos hw]
   have e:=lr_e h _ h1 ⟨⟨l⟩⟩ (spK l) a c _ _ n k sa sb st y r l' g0 (Nat.lt_succ_self _) hlt hl4 gh (by omega) (by rw[n0];omega) gh1 (by omega) LF es e30 e31 (congrArg (! ·) (neK (k:=0) hw))
   rw[show(((readM (l.drop (spK l+1))).1:Nat):Int)+((spK l:Nat):Int)+1=((spK l+1+(readM (l.drop (spK l+1))).1:Nat):Int) by omega] at e
   exact resl_of (x:=(edZ,spK l+1+(readM (l.drop (spK l+1))).1,(readM (l.drop (spK l+1))).2)) e (KH _ _)
theorem orcD_six{m:Int}{h:Heap}(G:Gl m h)(n:Nat)(hn:1≤n):RD n 6 [] h=some (.bool true,h):=by
 obtain⟨n,rfl⟩:∃ m,n=m+1:=⟨n - 1,by omega⟩
 show runA En orcD (drawn En) 5000 (n+1) 6 _ h=_
 simp only[runA,orcD_6]
 exact orc6_gl G
/-- DumpReads is true. -/
theorem dumpReads{m:Int}(s:ByteArray)(h:Heap)(n:Nat)(hn:1505≤n)(G:Gl m h):∃ h',RD n 4 [.string s] h=some (.bool true,h')∧Kp h h':=by
 obtain⟨n,rfl⟩:∃ m,n=m+1:=⟨n - 1,by omega⟩
 obtain⟨⟨l⟩⟩:=s
 have hG:=G.nx
 by_cases h3:3000 < l.length
 ·exact⟨_,PanE.fin (dd_long h ⟨⟨l⟩⟩ n (gt_dec (a:=l.length) (b:=3000) h3) (orcD_six G.fresh n (by omega))),(Kp.refl h.fresh).fin⟩
 obtain⟨h1,e13,K1⟩:=line13 l (by omega) h.fresh n (by omega) G.fresh
 have n1:h.nx≤h1.nx:=K1.nx
 have G1:Gl m h1:=⟨by omega,fun c hc=>(K1.get c (by show c < h.nx;omega)).trans (G.get c hc)⟩
 obtain⟨x,hx⟩:∃ x,x=lineM l:=⟨_,rfl⟩
 have e14':∀ g,Gl m g→ResL g (RD n 14 [.string ⟨⟨l⟩⟩] g) x:=fun g G=>by rw[hx];exact line14 l (by omega) g n (by omega) G
 rw[← hx] at e13
 clear hx
 obtain⟨⟨ek,er,ec,es⟩,e,c⟩:=x
 have Kx:Kp h1 (pt (al h1 45 Z8) h1.nx 45 [iv ((ek:Nat):Int),iv ((er:Nat):Int),iv ((ec:Nat):Int),iv 0,iv 0,iv 0,iv 0,.string ⟨⟨es⟩⟩]):=((Kp.refl h1).al _ _).pt _ _ (Nat.le_refl _) (Nat.lt_succ_self _)
 have nx:(pt (al h1 45 Z8) h1.nx 45 [iv ((ek:Nat):Int),iv ((er:Nat):Int),iv ((ec:Nat):Int),iv 0,iv 0,iv 0,iv 0,.string ⟨⟨es⟩⟩]).nx=h1.nx+1:=rfl
 have Gx:Gl m (pt (al h1 45 Z8) h1.nx 45 [iv ((ek:Nat):Int),iv ((er:Nat):Int),iv ((ec:Nat):Int),iv 0,iv 0,iv 0,iv 0,.string ⟨⟨es⟩⟩]):=⟨by rw[nx];omega,fun c hc=>(Kx.get c (by omega)).trans (G1.get c hc)⟩
 obtain⟨h2,e14,K2⟩:=e14' _ Gx
 have n2:=K2.nx
 rw[nx] at n2
 have g2:=(K2.get h1.nx (by rw[nx];omega)).trans (gP (h:=al h1 45 Z8) (t:=45) (cs:=[iv ((ek:Nat):Int),iv ((er:Nat):Int),iv ((ec:Nat):Int),iv 0,iv 0,iv 0,iv 0,.string ⟨⟨es⟩⟩]) (Nat.lt_succ_self h1.nx))
 have Ky:Kp h2 (pt (al h2 45 Z8) h2.nx 45 [iv ((ek:Nat):Int),iv ((er:Nat):Int),iv ((ec:Nat):Int),iv 0,iv 0,iv 0,iv 0,.string ⟨⟨es⟩⟩]):=((Kp.refl h2).al _ _).pt _ _ (Nat.le_refl _) (Nat.lt_succ_self _)
 have ny:(pt (al h2 45 Z8) h2.nx 45 [iv ((ek:Nat):Int),iv ((er:Nat):Int),iv ((ec:Nat):Int),iv 0,iv 0,iv 0,iv 0,.string ⟨⟨es⟩⟩]).nx=h2.nx+1:=rfl
 have Gy:Gl m (pt (al h2 45 Z8) h2.nx 45 [iv ((ek:Nat):Int),iv ((er:Nat):Int),iv ((ec:Nat):Int),iv 0,iv 0,iv 0,iv 0,.string ⟨⟨es⟩⟩]):=⟨by rw[ny];omega,fun c hc=>(Ky.get c (by omega)).trans ((K2.get c (by rw[nx];omega)).trans (Gx.get c hc))⟩
 have e15:∀ g,RD n 15 [.agg #[iv ((ek:Nat):Int),iv ((er:Nat):Int),iv ((ec:Nat):Int),iv 0,iv 0,iv 0,iv 0,.string ⟨⟨es⟩⟩],.agg #[iv ((ek:Nat):Int),iv ((er:Nat):Int),iv ((ec:Nat):Int),iv 0,iv 0,iv 0,iv 0,.string ⟨⟨es⟩⟩]] g=some (.bool true,g):=fun g=>by
  obtain⟨n,rfl⟩:∃ m,n=m+1:=⟨n - 1,by omega⟩
  rw[ed_eq g ek er ec n es (by simp) (eqV29 _ _) eqV43 (by simp),finish_low (Nat.le_refl _) rfl]
 exact⟨_,PanE.fin (dd_p h h1 h2 ⟨⟨l⟩⟩ ek er ec e c n es g2 (by omega) (gt_dec' (a:=l.length) (b:=3000) h3) e13 e14 (e15 _) (by simp) (by simp) (orcD_six Gy n (by omega))),(((K1.trans Kx).trans K2).trans Ky).fin⟩
end Go.PanE
