/-
 Part 37 of the proof of Rows.DumpLinesCardSaid. No conditions.
-/
import Derived.Test.YtihkphfmnnndfaaGreatDoorT36
namespace Go.PanE
open Go.Proofs
theorem zbG(u:Nat):∃ c t,Lib.decDigits u=c::t∧48≤c.toNat∧c.toNat≤57:=by
 induction u using Nat.strongRecOn with
 |ind u ih=>
  rw[Lib.decDigits]
  by_cases h:u < 10
  ·rw[dif_pos h]
   exact⟨_,_,rfl,by rw[wU (by omega)];omega,by rw[wU (by omega)];omega⟩
  ·rw[dif_neg h]
   obtain⟨c,t,e,h1⟩:=ih (u / 10) (by omega)
   rw[e]
   exact⟨c,_,rfl,h1⟩
def jm(l:Bsy)(a:Int):Prop:=-9223372036854775808≤a∧a≤9223372036854775807∧Lib.itoa a=l
theorem zoO(l m:Bsy):∀ a,qm a (l++m)=qm (qm a l) m:=by
 induction l with
 |nil=>intro a;rfl
 |cons b l ih=>intro a;exact ih _
theorem ziq:∀ u,∀ c∈Lib.decDigits u,dig c:=by
 intro u
 induction u using Nat.strongRecOn with
 |ind u ih=>
  intro c hc
  rw[Lib.decDigits] at hc
  by_cases h:u < 10
  ·rw[dif_pos h,List.mem_singleton] at hc
   subst hc
   unfold dig
   rw[wU (by omega)];omega
  ·rw[dif_neg h,List.mem_append,List.mem_singleton] at hc
   rcases hc with hc|rfl
   ·exact ih (u / 10) (by omega) c hc
   ·unfold dig
    rw[wU (by omega)];omega
theorem zhb:∀ u,qm 0 (Lib.decDigits u)=u:=by
 intro u
 induction u using Nat.strongRecOn with
 |ind u ih=>
  rw[Lib.decDigits]
  by_cases h:u < 10
  ·rw[dif_pos h]
   show 0 * 10+((UInt8.ofNat (48+u)).toNat - 48)=u
   rw[wU (by omega)];omega
  ·rw[dif_neg h,zoO,ih (u / 10) (by omega)]
   show u / 10 * 10+((UInt8.ofNat (48+u % 10)).toNat - 48)=u
   rw[wU (by omega)];omega
theorem zhf(u:Nat):Lib.decDigits u≠[]:=by
 obtain⟨c,t,e,_⟩:=zbG u
 rw[e];simp
theorem zbn{a:Int}(h1: -9223372036854775808≤a)(h2:a≤9223372036854775807):Lib.parseIntB 64 (Lib.itoa a)= .ok a:=by
 unfold Lib.itoa
 split
 next hn=>
  have hu:=zll (Lib.decDigits a.natAbs) 0 (ziq _)
  rw[zhb,if_pos (by omega)] at hu
  unfold Lib.parseIntB
  have e45:(45:UInt8).toNat=45:=rfl
  simp only[e45]
  rw[if_pos (.inr trivial)]
  unfold Lib.parseUintB
  rw[if_neg (zhf _),show(2 ^ 64 - 1:Nat)=18446744073709551615 from rfl,hu]
  simp only
  rw[if_neg (by simp),if_neg (by rintro⟨_,h⟩;omega),if_pos trivial]
  congr 1
  omega
 next hn=>
  rw[zln (ziq _) (zhf _)]
  unfold uL
  rw[zhb,if_pos (by omega)]
  simp only
  congr 1
  omega
theorem jm.inj{l:Bsy}{a b:Int}(h:jm l a)(g:jm l b):a=b:=by
 have e1:=zbn h.1 h.2.1
 have e2:=zbn g.1 g.2.1
 rw[h.2.2] at e1
 rw[g.2.2,e1] at e2
 simpa using e2
theorem jm.parse{l:Bsy}{a:Int}(h:jm l a):Lib.parseIntB 64 l= .ok a:=by rw[← h.2.2];exact zbn h.1 h.2.1
theorem jm.len{l:Bsy}{a:Int}(h:jm l a):l.length≤20:=by rw[← h.2.2];exact zdn h.1 h.2.1
def zpk(l:Bsy)(a:Int)(ok:Bool):Prop:=(ok=true∧jm l a)∨(ok=false∧∀ b,¬ jm l b)
/-! The reference's. -/
theorem zag:∀ u,u≤9223372036854775808→jE (Lib.decDigits u) 0=some u:=by
 have st:∀ {u d:Nat},d < 10→u≤922337203685477580→qp u (UInt8.ofNat (48+d))=some (u * 10+d):=fun h hu=>by
  unfold qp
  rw[wU (by omega),if_neg (by omega)]
  congr 1
  omega
 intro u
 induction u using Nat.strongRecOn with
 |ind u ih=>
  intro hu
  rw[Lib.decDigits]
  by_cases h:u < 10
  ·rw[dif_pos h]
   show(match qp 0 (UInt8.ofNat (48+u)) with|some a'=>jE [] a'|none=>none)=_
   rw[st h (by omega)]
   show some (0 * 10+u)=_
   rw[Nat.zero_mul,Nat.zero_add]
  ·rw[dif_neg h,zg4,ih (u / 10) (by omega) (by omega)]
   show(match qp (u / 10) (UInt8.ofNat (48+u % 10)) with|some a'=>jE [] a'|none=>none)=_
   rw[st (by omega) (by omega)]
   show some (u / 10 * 10+u % 10)=_
   congr 1
   omega
theorem zhO{u:Nat}(hu:u < 18446744073709551616)(b:Bool)(h:Heap)(n:Nat)(hn:1≤n):∃ N ok,-9223372036854775808≤N∧N≤9223372036854775807∧RD n 76 [.int .u64 (u:Int),.bool b] h=some (.agg #[iv N,.bool ok],h)∧(u < 9223372036854775808→b=false→N=(u:Int)∧ok=true)∧(u≤9223372036854775808→b=true→N= -(u:Int)∧ok=true):=by
 obtain⟨n,rfl⟩:=zs_ n
 have fl:∀ {X:Option (Value×Heap)} {N:Int} {ok:Bool},X=some (zy h (.agg #[iv N,.bool ok]) (pt (al h.fh 117 [iv 0,.bool false]) h.nx 117 [iv N,.bool ok]))→X=some (.agg #[iv N,.bool ok],h):=fun e=>by
  rw[e,zk (by simp only[al,pt,zl,ze,zX];omega) rfl]
 have eq63:∀ {x:Bool},decide (u=9223372036854775808)=x→((u:Int)==9223372036854775808)=x:=fun hx=>by rw[← hx];exact eqN u 9223372036854775808
 cases b with
 |true=>
  by_cases h0:u=9223372036854775808
  ·exact⟨_,_,by omega,by omega,fl (zsX h u n hu (eq63 (dT h0))),fun _ h=>(by cases h),fun _ _=>⟨by omega,rfl⟩⟩
  ·by_cases h1:9223372036854775808≤u
   ·exact⟨_,_,by omega,by omega,fl (zvO h u n hu (eq63 (dF h0)) (dT (by omega))),fun _ h=>(by cases h),fun h _=>by omega⟩
   ·have e:=zsW h u n (by omega) (eq63 (dF h0)) (dF (by omega))
    rw[zc6 (by omega) (by omega)] at e
    exact⟨_,_,by omega,by omega,fl e,fun _ h=>(by cases h),fun _ _=>⟨by omega,rfl⟩⟩
 |false=>
  by_cases h1:9223372036854775808≤u
  ·exact⟨_,_,by omega,by omega,fl (zvM h u n hu (dT (by omega))),fun h=>(by omega),fun _ h=>by cases h⟩
  ·exact⟨_,_,by omega,by omega,fl (zsV h u n (by omega) (dF (by omega))),fun _ _=>⟨rfl,rfl⟩,fun _ h=>by cases h⟩
theorem jm.neg{t:Bsy}{b:UInt8}{a:Int}(h:jm (b::t) a)(hb:b.toNat=45):a < 0∧t=Lib.decDigits a.natAbs:=by
 have e:=h.2.2
 unfold Lib.itoa at e
 split at e
 next hn=>exact⟨hn,(List.cons.inj e).2.symm⟩
 next hn=>
  obtain⟨c,t',e',h1,h2⟩:=zbG a.toNat
  rw[e'] at e
  have:=(List.cons.inj e).1
  rw[this] at h1
  omega
theorem jm.pos{t:Bsy}{b:UInt8}{a:Int}(h:jm (b::t) a)(hb:b.toNat≠45):0≤a∧b::t=Lib.decDigits a.toNat:=by
 have e:=h.2.2
 unfold Lib.itoa at e
 split at e
 next hn=>exact absurd (by rw[← (List.cons.inj e).1];rfl) hb
 next hn=>exact⟨by omega,e.symm⟩
theorem zpN(l:Bsy)(hl:l.length < 4000)(h:Heap)(n:Nat)(hn:4≤n):∃ N ok,RD n 51 [.string ⟨⟨l⟩⟩] h=some (.agg #[iv N,.bool ok],h)∧-9223372036854775808≤N∧N≤9223372036854775807∧zpk l N ok:=by
 obtain⟨n,rfl⟩:=zs_ n
 have hl4:(⟨⟨l⟩⟩:BA).data.toList.length < 4000:=by show l.length < 4000;omega
 have low:∀ {X:Option (Value×Heap)} {v:Vs} {H:Heap},X=some (zy h (.agg ⟨v⟩) H)→h.nx≤H.wm→zM h.nx 5 (.agg ⟨v⟩)=true→X=some (.agg ⟨v⟩,h):=fun e hw hv=>by rw[e,zk hw hv]
 have none_:∀ {X:Option (Value×Heap)} {N:Int},X=some (.agg #[iv N,.bool false],h)→-9223372036854775808≤N→N≤9223372036854775807→(∀ b,¬ jm l b)→∃ N ok,X=some (.agg #[iv N,.bool ok],h)∧-9223372036854775808≤N∧N≤9223372036854775807∧zpk l N ok:=
  fun e h1 h2 h3=>⟨_,_,e,h1,h2,.inr ⟨rfl,h3⟩⟩
 cases l with
 |nil=>
  refine none_ (low (zzS h ⟨⟨[]⟩⟩ n hl4 rfl rfl) (by simp only[al,pt,zl,ze,zX];omega) rfl) (by omega) (by omega) fun b hb=>?_
  have:=hb.parse
  cases this
 |cons b t=>
  have hpos:0 < (⟨⟨b::t⟩⟩:BA).data.toList.length:=by show 0 < (b::t).length;simp
  have e0:decide (((⟨⟨b::t⟩⟩:BA).data.toList.length:Int)>0)=true:=wj (b:=0) hpos
  have hb0:bAt ⟨⟨b::t⟩⟩ 0=b.toNat:=rfl
  have g0:(al h.fh 117 [iv 0,.bool false]).get h.nx=some (.row 117 [iv 0,.bool false] 0 false):=gN (h:=h.fh)
  have wA:(al h.fh 117 [iv 0,.bool false]).wm=h.nx:=rfl
  have nA:(al h.fh 117 [iv 0,.bool false]).nx=h.nx+1:=rfl
  have eL:(⟨⟨b::t⟩⟩:BA).data.toList.length=t.length+1:=rfl
  have h20n:20 < t.length+1→∀ b',¬ jm (b::t) b':=fun hh b' hb=>by
   have:=hb.len
   rw[lC] at this
   omega
  by_cases hm:b.toNat=45
  ·have em:(((bAt ⟨⟨b::t⟩⟩ 0:Int):Int)==45)=true:=by rw[hb0];exact eqK (k:=45) hm
   by_cases h1:t.length=0
   ·refine none_ (low (zwu h ⟨⟨b::t⟩⟩ n hl4 hpos e0 em (by rw[eL,h1];rfl)) (by simp only[al,pt,zl,ze,zX];omega) rfl) (by omega) (by omega) fun a ha=>?_
    have:=(ha.neg hm).2
    exact zhf _ (this.symm.trans (List.eq_nil_of_length_eq_zero h1))
   have e1:((((⟨⟨b::t⟩⟩:BA).data.toList.length:Nat):Int)==1)=false:=by rw[eL];exact neK (k:=1) (by omega)
   by_cases h20:20 < t.length+1
   ·exact none_ (low (zwt h ⟨⟨b::t⟩⟩ n hl4 hpos e0 em e1 (by rw[eL];exact wj (b:=20) h20)) (by simp only[al,pt,zl,ze,zX];omega) rfl) (by omega) (by omega) (h20n h20)
   have e20:decide (((⟨⟨b::t⟩⟩:BA).data.toList.length:Int)>20)=false:=by rw[eL];exact zR (b:=20) (by omega)
   obtain⟨hL,R,hR,nL,gL,wL,M⟩:=zhZ (b::t) (by rw[lC];omega) n 1 h.nx t 1 0 (al h.fh 117 [iv 0,.bool false]) rfl (by omega) (by omega) g0
   have gL0:=(gL h.nx).trans g0
   cases hf:jE t 0 with
   |none=>
    rw[hf] at M
    refine none_ (low (zws h hL ⟨⟨b::t⟩⟩ 0 n gL0 (by omega) hl4 hpos (by omega) e0 em e1 e20 (Loops.fact' M (by omega) ⟨by kernel_rfl,by kernel_rfl,by kernel_rfl,by kernel_rfl,by kernel_rfl,trivial⟩)) (by omega) rfl) (by omega) (by omega) fun a ha=>?_
    have:=(ha.neg hm).2
    rw[this,zag _ (by have:=ha.1;have:=(ha.neg hm).1;omega)] at hf
    cases hf
   |some u=>
    rw[hf] at M
    obtain⟨hu,M⟩:=M
    have LF:=Loops.fact' (ov:=zbt [(0,.string ⟨⟨b::t⟩⟩),(2,pv h.nx 0),(3,iv 1),(7,.string ⟨⟨b::t⟩⟩),(8,iv (⟨⟨b::t⟩⟩:BA).data.toList.length),(9,.bool true),(10,.bool true),(11,.string ⟨⟨b::t⟩⟩),(12,.int .u8 (bAt ⟨⟨b::t⟩⟩ 0:Int)),(13,.bool true),(14,.bool true),(15,.string ⟨⟨b::t⟩⟩),(16,iv (⟨⟨b::t⟩⟩:BA).data.toList.length),(17,iv 1),(18,.bool false),(19,.bool false),(20,.string ⟨⟨b::t⟩⟩),(21,iv (⟨⟨b::t⟩⟩:BA).data.toList.length),(22,.bool false),(23,.bool false),(4,.int .u64 0),(25,iv 1),(5,iv 1)]) M (by omega) ⟨by kernel_rfl,by kernel_rfl,by kernel_rfl,by kernel_rfl,by kernel_rfl,trivial⟩
    obtain⟨N,ok,hN1,hN2,eS,_,hS⟩:=zhO (u:=u) (by omega) true hL n (by omega)
    have isd:∀ a,jm (b::t) a→N=a∧ok=true:=fun a ha=>by
     have ht:=(ha.neg hm).2
     have hn:=(ha.neg hm).1
     have ha1:=ha.1
     rw[ht,zag _ (by omega)] at hf
     cases hf
     obtain⟨h1,h2⟩:=hS (by omega) rfl
     exact⟨by omega,h2⟩
    cases ok with
    |false=>exact none_ (low (zwr h hL ⟨⟨b::t⟩⟩ ⟨⟨[]⟩⟩ u n N gL0 (by omega) hl4 hpos (by omega) e0 em e1 e20 LF eS) (by simp only[al,pt,zl,ze];omega) rfl) (by omega) (by omega) fun a ha=>by have:=(isd a ha).2;cases this
    |true=>
     have e42:=uT hN1 hN2 (pt (al hL 117 [iv 0,.bool false]) hL.nx 117 [iv N,.bool true]) n (by omega)
     by_cases he:Lib.itoa N=b::t
     ·exact⟨N,true,low (zwp h hL ⟨⟨b::t⟩⟩ ⟨⟨Lib.itoa N⟩⟩ u n N gL0 (by omega) hl4 hpos (by omega) e0 em e1 e20 LF eS e42 (congrArg (! ·) ((zZ (Lib.itoa N) (b::t)).trans (dT he)))) (by simp only[al,pt,zl,ze];omega) rfl,hN1,hN2,.inl ⟨rfl,hN1,hN2,he⟩⟩
     ·exact none_ (low (zwq h hL ⟨⟨b::t⟩⟩ ⟨⟨Lib.itoa N⟩⟩ u n N gL0 (by omega) hl4 hpos (by omega) e0 em e1 e20 LF eS e42 (congrArg (! ·) ((zZ (Lib.itoa N) (b::t)).trans (dF he)))) (by simp only[al,pt,zl,ze];omega) rfl) (by omega) (by omega) fun a ha=>he (by rw[(isd a ha).1];exact ha.2.2)
  ·have em:(((bAt ⟨⟨b::t⟩⟩ 0:Int):Int)==45)=false:=by rw[hb0];exact neK (k:=45) hm
   have e1:((((⟨⟨b::t⟩⟩:BA).data.toList.length:Nat):Int)==0)=false:=by rw[eL];exact neK (k:=0) (by omega)
   by_cases h20:20 < t.length+1
   ·exact none_ (low (zwo h ⟨⟨b::t⟩⟩ n hl4 hpos e0 em e1 (by rw[eL];exact wj (b:=20) h20)) (by simp only[al,pt,zl,ze,zX];omega) rfl) (by omega) (by omega) (h20n h20)
   have e20:decide (((⟨⟨b::t⟩⟩:BA).data.toList.length:Int)>20)=false:=by rw[eL];exact zR (b:=20) (by omega)
   obtain⟨hL,R,hR,nL,gL,wL,M⟩:=zhZ (b::t) (by rw[lC];omega) n 0 h.nx (b::t) 0 0 (al h.fh 117 [iv 0,.bool false]) rfl (by omega) (by omega) g0
   rw[lC] at hR
   have gL0:=(gL h.nx).trans g0
   cases hf:jE (b::t) 0 with
   |none=>
    rw[hf] at M
    refine none_ (low (zwn h hL ⟨⟨b::t⟩⟩ 0 n gL0 (by omega) hl4 hpos (by omega) e0 em e1 e20 (Loops.fact' M (by omega) ⟨by kernel_rfl,by kernel_rfl,by kernel_rfl,by kernel_rfl,by kernel_rfl,trivial⟩)) (by omega) rfl) (by omega) (by omega) fun a ha=>?_
    rw[(ha.pos hm).2,zag _ (by have:=ha.2.1;omega)] at hf
    cases hf
   |some u=>
    rw[hf] at M
    obtain⟨hu,M⟩:=M
    have LF:=Loops.fact' (ov:=zbt [(0,.string ⟨⟨b::t⟩⟩),(2,pv h.nx 0),(3,iv 0),(7,.string ⟨⟨b::t⟩⟩),(8,iv (⟨⟨b::t⟩⟩:BA).data.toList.length),(9,.bool true),(10,.bool true),(11,.string ⟨⟨b::t⟩⟩),(12,.int .u8 (bAt ⟨⟨b::t⟩⟩ 0:Int)),(13,.bool false),(14,.bool false),(15,.string ⟨⟨b::t⟩⟩),(16,iv (⟨⟨b::t⟩⟩:BA).data.toList.length),(17,iv 0),(18,.bool false),(19,.bool false),(20,.string ⟨⟨b::t⟩⟩),(21,iv (⟨⟨b::t⟩⟩:BA).data.toList.length),(22,.bool false),(23,.bool false),(4,.int .u64 0),(25,iv 0),(5,iv 0)]) M (by omega) ⟨by kernel_rfl,by kernel_rfl,by kernel_rfl,by kernel_rfl,by kernel_rfl,trivial⟩
    obtain⟨N,ok,hN1,hN2,eS,hS,_⟩:=zhO (u:=u) (by omega) false hL n (by omega)
    have isd:∀ a,jm (b::t) a→N=a∧ok=true:=fun a ha=>by
     have ht:=(ha.pos hm).2
     have hn:=(ha.pos hm).1
     have ha1:=ha.2.1
     rw[ht,zag _ (by omega)] at hf
     cases hf
     obtain⟨h1,h2⟩:=hS (by omega) rfl
     exact⟨by omega,h2⟩
    cases ok with
    |false=>exact none_ (low (zwm h hL ⟨⟨b::t⟩⟩ ⟨⟨[]⟩⟩ u n N gL0 (by omega) hl4 hpos (by omega) e0 em e1 e20 LF eS) (by simp only[al,pt,zl,ze];omega) rfl) (by omega) (by omega) fun a ha=>by have:=(isd a ha).2;cases this
    |true=>
     have e42:=uT hN1 hN2 (pt (al hL 117 [iv 0,.bool false]) hL.nx 117 [iv N,.bool true]) n (by omega)
     by_cases he:Lib.itoa N=b::t
     ·exact⟨N,true,low (zwk h hL ⟨⟨b::t⟩⟩ ⟨⟨Lib.itoa N⟩⟩ u n N gL0 (by omega) hl4 hpos (by omega) e0 em e1 e20 LF eS e42 (congrArg (! ·) ((zZ (Lib.itoa N) (b::t)).trans (dT he)))) (by simp only[al,pt,zl,ze];omega) rfl,hN1,hN2,.inl ⟨rfl,hN1,hN2,he⟩⟩
     ·exact none_ (low (zwl h hL ⟨⟨b::t⟩⟩ ⟨⟨Lib.itoa N⟩⟩ u n N gL0 (by omega) hl4 hpos (by omega) e0 em e1 e20 LF eS e42 (congrArg (! ·) ((zZ (Lib.itoa N) (b::t)).trans (dF he)))) (by simp only[al,pt,zl,ze];omega) rfl) (by omega) (by omega) fun a ha=>he (by rw[(isd a ha).1];exact ha.2.2)
theorem znT(l:Bsy)(hl:l.length < 4000)(h:Heap)(n:Nat)(hn:4≤n):∃ N ok,RD n 51 [.string ⟨⟨l⟩⟩] h=some (.agg #[iv N,.bool ok],h)∧-9223372036854775808≤N∧N≤9223372036854775807∧(∀ r,r≤1000→l=Lib.decDigits r→N=(r:Int)∧ok=true):=by
 obtain⟨N,ok,e,h1,h2,D⟩:=zpN l hl h n hn
 refine⟨N,ok,e,h1,h2,fun r hr er=>?_⟩
 have g:jm l (r:Int):=⟨by omega,by omega,by rw[zbu,er]⟩
 rcases D with⟨o,d⟩|⟨_,d⟩
 ·exact⟨d.inj g,o⟩
 ·exact absurd g (d _)
abbrev LET:BA:=⟨#[65,66,67,68,69,70,71,72,73,74,75,76,77,78,79,80,81,82,83,84,85,86,87,88,89,90]⟩
theorem zia:∀ {c:Nat},c < 26→zv LET (c:Int) ((c:Int)+1)=⟨⟨[UInt8.ofNat (65+c)]⟩⟩
 |0,_=>rfl|1,_=>rfl|2,_=>rfl|3,_=>rfl|4,_=>rfl|5,_=>rfl|6,_=>rfl|7,_=>rfl|8,_=>rfl|9,_=>rfl|10,_=>rfl|11,_=>rfl|12,_=>rfl
 |13,_=>rfl|14,_=>rfl|15,_=>rfl|16,_=>rfl|17,_=>rfl|18,_=>rfl|19,_=>rfl|20,_=>rfl|21,_=>rfl|22,_=>rfl|23,_=>rfl|24,_=>rfl|25,_=>rfl
 |c+26,h=>by omega
theorem ziu{c:Nat}(h1:1≤c)(h2:c≤50)(h:Heap)(n:Nat)(hn:1≤n):RD n 41 [iv (c:Int)] h=some (.string ⟨⟨we c⟩⟩,h):=by
 obtain⟨n,rfl⟩:=zs_ n
 by_cases hc:c≤26
 ·have e:=zBI h c n h1 h2 rfl hc (dT (by omega))
  have el:=zia (c:=c - 1) (by omega)
  rw[show(((c - 1:Nat):Int))=(c:Int) - 1 by omega,show(c:Int) - 1+1=(c:Int) by omega,show 65+(c - 1)=64+c by omega] at el
  rw[el] at e
  unfold we
  rw[if_pos hc]
  exact zH e rfl
 ·have e:=zBH h c n h1 h2 rfl (by omega) (dF (by omega))
  have el:=zia (c:=c - 27) (by omega)
  rw[show(((c - 27:Nat):Int))=(c:Int) - 27 by omega,show(c:Int) - 27+1=(c:Int) - 26 by omega,show 65+(c - 27)=64+(c - 26) by omega] at el
  rw[el,show(⟨#[65]⟩++⟨⟨[UInt8.ofNat (64+(c - 26))]⟩⟩:BA)=⟨⟨[65,UInt8.ofNat (64+(c - 26))]⟩⟩ from uv [65] _] at e
  unfold we
  rw[if_neg hc]
  exact zH e rfl
theorem za5{r c:Nat}(g:inG r c)(h:Heap)(n:Nat)(hn:4≤n):RD n 23 [.agg #[iv (r:Int),iv (c:Int)]] h=some (.string ⟨⟨nmB r c⟩⟩,h):=by
 obtain⟨n,rfl⟩:=zs_ n
 have e42:=uT (a:=(r:Int)) (by have:=g.1;omega) (by have:=g.2.1;omega) (al h.fh 29 [iv (r:Int),iv (c:Int)]) n (by omega)
 rw[zbu] at e42
 have e:=zAh h (r:Int) c n _ _ (by rw[wx];have:=zit c;omega) (by rw[wx];have:=qC 3 r (by have:=g.2.1;omega);omega) (zjW g _ n (by omega)) (ziu g.2.2.1 g.2.2.2 _ n (by omega)) e42
 rw[uv] at e
 rw[e,zk (by simp only[al,zl,zX];omega) rfl]
 rfl
theorem zis(c:Nat):1≤(we c).length:=by
 unfold we
 split <;>simp
abbrev FbL(n:Nat):=Loops En (RD n) 50 18446744073709551616 (sub [1,0,1,0,0] (zp Tryz.f30))
theorem zuA(l:Bsy)(k:Nat):zv ⟨⟨l⟩⟩ 0 (k:Int)=⟨⟨l.take k⟩⟩:=zj7 _ _
theorem zhg(l:Bsy)(k:Nat):zv ⟨⟨l⟩⟩ (k:Int) ((⟨⟨l⟩⟩:BA).data.toList.length:Nat)=⟨⟨l.drop k⟩⟩:=by
 unfold zv
 show(⟨⟨(l.drop k).take (l.length - k)⟩⟩:BA)=_
 rw[List.take_of_length_le (by rw[List.length_drop];omega)]
theorem zrB(l:Bsy)(hl:l.length≤4000)(n:Nat)(hn:5≤n)(B2:Nat):∀ (k c:Nat) (h:Heap),c+k=51→1≤c→h.get B2=some (.row 78 [iv 0,iv 0,.bool false] 0 false)→B2≤h.wm→
  ∃ hL R,R≤k+1∧h.nx≤hL.nx∧(∀ x,x < B2→hL.get x=h.get x)∧B2≤hL.wm∧
   ((FbL n [(0,.string ⟨⟨l⟩⟩),(2,pv B2 0),(3,iv (c:Int))] h (.exit 0) [(2,pv B2 0)] hL R∧hL.get B2=some (.row 78 [iv 0,iv 0,.bool false] 0 false)∧∀ r c',c≤c'→inG r c'→nmB r c'≠l)∨
    (∃ r c',inG r c'∧nmB r c'=l∧FbL n [(0,.string ⟨⟨l⟩⟩),(2,pv B2 0),(3,iv (c:Int))] h .ret [(2,pv B2 0)] hL R∧hL.get B2=some (.row 78 [iv (r:Int),iv ((c':Nat):Int),.bool true] 0 false))):=by
 intro k
 induction k with
 |zero=>
  intro c h hc h1 g2 hw
  refine⟨h,1,by omega,nL_ _,fun _ _=>rfl,hw,.inl ⟨.out (zum h ⟨⟨l⟩⟩ c B2 n (by omega) (dF (by omega))),g2,fun r c' hcc g=>?_⟩⟩
  have:=g.2.2.2
  omega
 |succ k ih=>
  intro c h hc h1 g2 hw
  have h2l:=za g2
  have e41:=ziu (c:=c) h1 (by omega) h n (by omega)
  have ec:decide ((c:Int)≤50)=true:=dT (by omega)
  have hpr:∀ r,inG r c→nmB r c=l→(we c).length < l.length∧l.take (we c).length=we c∧l.drop (we c).length=Lib.decDigits r:=by
   rintro r g rfl
   unfold nmB
   obtain⟨x,t,e,_⟩:=zbG r
   refine⟨by rw[lA,e,lC];omega,List.take_left' rfl,List.drop_left' rfl⟩
  have next:∀ {H:Heap},wC En (RD n) 50 18446744073709551616 (sub [1,0,1,0,0] (zp Tryz.f30)) [(0,.string ⟨⟨l⟩⟩),(2,pv B2 0),(3,iv (c:Int))] h .normal [(0,.string ⟨⟨l⟩⟩),(2,pv B2 0),(3,iv ((c:Int)+1))] H→h.nx≤H.nx→(∀ x,x < h.nx→H.get x=h.get x)→B2≤H.wm→(∀ r,inG r c→nmB r c≠l)→
    ∃ hL R,R≤k+1+1∧h.nx≤hL.nx∧(∀ x,x < B2→hL.get x=h.get x)∧B2≤hL.wm∧
     ((FbL n [(0,.string ⟨⟨l⟩⟩),(2,pv B2 0),(3,iv (c:Int))] h (.exit 0) [(2,pv B2 0)] hL R∧hL.get B2=some (.row 78 [iv 0,iv 0,.bool false] 0 false)∧∀ r c',c≤c'→inG r c'→nmB r c'≠l)∨
      (∃ r c',inG r c'∧nmB r c'=l∧FbL n [(0,.string ⟨⟨l⟩⟩),(2,pv B2 0),(3,iv (c:Int))] h .ret [(2,pv B2 0)] hL R∧hL.get B2=some (.row 78 [iv (r:Int),iv ((c':Nat):Int),.bool true] 0 false))):=by
   intro H hb nH gH wH hno
   obtain⟨hL,R,hR,nL,gL,wL,M⟩:=ih (c+1) H (by omega) (by omega) ((gH _ h2l).trans g2) wH
   refine⟨hL,R+1,by omega,by omega,fun x hx=>(gL x hx).trans (gH x (by omega)),wL,?_⟩
   rcases M with⟨L,g,hn'⟩|⟨r,c',h3,h4,L,g⟩
   ·refine .inl ⟨.on hb L,g,fun r c' hcc hg e=>?_⟩
    by_cases hcc':c'=c
    ·subst hcc';exact hno r hg e
    ·exact hn' r c' (by omega) hg e
   ·exact .inr ⟨r,c',h3,h4,.on hb L,g⟩
  by_cases hs:l.length≤(we c).length
  ·exact next (zoD h ⟨⟨l⟩⟩ ⟨⟨we c⟩⟩ c B2 n (by omega) ec e41 (dT (by show((l.length:Nat):Int)≤(((we c).length:Nat):Int);omega))) (nL_ _) (fun _ _=>rfl) hw fun r g e=>by have:=(hpr r g e).1;omega
  have hlt:(we c).length < l.length:=by omega
  have e2:decide ((((⟨⟨l⟩⟩:BA).data.toList.length:Nat):Int)≤((⟨⟨we c⟩⟩:BA).data.toList.length:Nat))=false:=dF (by show ¬ ((l.length:Nat):Int)≤(((we c).length:Nat):Int);omega)
  have ect:zv ⟨⟨l⟩⟩ 0 ((⟨⟨we c⟩⟩:BA).data.toList.length:Nat)=⟨⟨l.take (we c).length⟩⟩:=zuA l (we c).length
  by_cases ht:l.take (we c).length=we c
  ·have e3:(!((zv ⟨⟨l⟩⟩ 0 ((⟨⟨we c⟩⟩:BA).data.toList.length:Nat):BA).data.toList==(⟨⟨we c⟩⟩:BA).data.toList))=false:=by
    rw[ect];exact congrArg (! ·) ((zZ _ _).trans (dT ht))
   obtain⟨N,ok,e51,hN1,hN2,hN⟩:=znT (l.drop (we c).length) (by rw[List.length_drop];have:=zis c;omega) h n (by omega)
   rw[← zhg] at e51
   have K:∀ ok,Kp h (pt (al (pt (al h 117 [iv 0,.bool false]) h.nx 117 [iv N,.bool ok]) 29 [iv 0,iv 0]) (h.nx+1) 29 [iv N,iv (c:Int)]):=fun ok=>((((Kp.refl h).al _ _).pt (b:=h.nx) _ _ (nL_ _) (by show h.nx < h.nx+1;omega)).al _ _).pt (b:=h.nx+1) _ _ (by omega) (by show h.nx+1 < h.nx+1+1;omega)
   have wK:∀ ok,B2≤(pt (al (pt (al h 117 [iv 0,.bool false]) h.nx 117 [iv N,.bool ok]) 29 [iv 0,iv 0]) (h.nx+1) 29 [iv N,iv (c:Int)]).wm:=fun ok=>by simp only[al,pt,zl,ze];omega
   cases ok with
   |false=>exact next (zun h ⟨⟨l⟩⟩ ⟨⟨we c⟩⟩ N c B2 n (by omega) hlt ec e41 e2 e3 e51) (K false).nx (K false).get (wK false) fun r g e=>by have:=(hN r g.2.1 (hpr r g e).2.2).2;cases this
   |true=>
    have e21:=zfh N (c:Int) (pt (al (pt (al h 117 [iv 0,.bool false]) h.nx 117 [iv N,.bool true]) 29 [iv 0,iv 0]) (h.nx+1) 29 [iv N,iv (c:Int)]) n (by omega)
    cases hg:wE N (c:Int) with
    |false=>
     rw[hg] at e21
     refine next (zxp h ⟨⟨l⟩⟩ ⟨⟨we c⟩⟩ N c B2 n (by omega) hlt ec e41 e2 e3 e51 e21) (K true).nx (K true).get (wK true) fun r g e=>?_
     have:=(hN r g.2.1 (hpr r g e).2.2).1
     obtain⟨h1,h2,h3,h4⟩:=g
     rw[this] at hg
     unfold wE at hg
     rw[dT (by omega),dT (by omega),dT (by omega),dT (by omega)] at hg
     cases hg
    |true=>
     rw[hg] at e21
     have hNr:∃ r:Nat,N=(r:Int)∧inG r c:=by
      unfold wE at hg
      simp only[Bool.cond_false_right,bA,decide_eq_true_eq] at hg
      exact⟨N.toNat,by omega,by omega,by omega,by omega,by omega⟩
     obtain⟨r,rfl,hgr⟩:=hNr
     have e23:=za5 hgr (pt (al (pt (al h 117 [iv 0,.bool false]) h.nx 117 [iv (r:Int),.bool true]) 29 [iv 0,iv 0]) (h.nx+1) 29 [iv (r:Int),iv (c:Int)]) n (by omega)
     by_cases he:nmB r c=l
     ·have hb:=zul h ⟨⟨l⟩⟩ ⟨⟨we c⟩⟩ ⟨⟨nmB r c⟩⟩ (r:Int) c B2 n (by omega) hlt h2l g2 ec e41 e2 e3 e51 e21 e23 ((zZ _ _).trans (dT he))
      refine⟨_,1,by omega,?_,fun x hx=>?_,?_,.inr ⟨r,c,hgr,he,.ret hb,gP (by show B2 < h.nx+1+1;omega)⟩⟩
      ·show h.nx≤h.nx+1+1;omega
      ·exact(zf _ _ _ _ (by show B2 < h.nx+1+1;omega) (by omega)).trans ((K true).get x (by omega))
      ·rw[ze];have:=wK true;omega
     ·refine next (zxo h ⟨⟨l⟩⟩ ⟨⟨we c⟩⟩ ⟨⟨nmB r c⟩⟩ (r:Int) c B2 n (by omega) hlt ec e41 e2 e3 e51 e21 e23 ((zZ _ _).trans (dF he))) (K true).nx (K true).get (wK true) fun r' g' e'=>?_
      have:=(hN r' g'.2.1 (hpr r' g' e').2.2).1
      have hrr:r=r':=by omega
      subst hrr
      exact he e'
  ·have e3:(!((zv ⟨⟨l⟩⟩ 0 ((⟨⟨we c⟩⟩:BA).data.toList.length:Nat):BA).data.toList==(⟨⟨we c⟩⟩:BA).data.toList))=true:=by
    rw[ect];exact congrArg (! ·) ((zZ _ _).trans (dF ht))
   exact next (zxq h ⟨⟨l⟩⟩ ⟨⟨we c⟩⟩ c B2 n (by omega) hlt ec e41 e2 e3) (nL_ _) (fun _ _=>rfl) hw fun r g e=>ht (hpr r g e).2.1
theorem zr7{l:Bsy}(hl:l.length≤4000)(h:Heap)(n:Nat)(hn:6≤n):
  match adr l with
  |some (a,c)=>RD n 30 [.string ⟨⟨l⟩⟩] h=some (.agg #[iv (a:Int),iv (c:Int),.bool true],h)
  |none=>∃ a c:Int,RD n 30 [.string ⟨⟨l⟩⟩] h=some (.agg #[iv a,iv c,.bool false],h):=by
 obtain⟨n,rfl⟩:=zs_ n
 obtain⟨hL,R,hR,nL,gL,wL,M⟩:=zrB l hl n (by omega) h.nx 50 1 (al h.fh 78 [iv 0,iv 0,.bool false]) rfl (by omega) (gN (h:=h.fh)) (nL_ _)
 have nA:(al h.fh 78 [iv 0,iv 0,.bool false]).nx=h.nx+1:=rfl
 rcases M with⟨L,g,hno⟩|⟨r,c,hg,he,L,g⟩
 ·have e:adr l=none:=by
   cases e:adr l with
   |none=>rfl
   |some v=>
    obtain⟨r,c⟩:=v
    obtain⟨hg,he⟩:=uU.1 e
    exact absurd he (hno r c hg.2.2.1 hg)
  rw[e]
  refine⟨0,0,(zxk h hL ⟨⟨l⟩⟩ n g (by omega) (L.fact2 (by omega) (by kernel_rfl))).trans ?_⟩
  rw[zk (by rw[ze];omega) rfl]
 ·rw[uU.2 ⟨hg,he⟩]
  refine(zuj h hL ⟨⟨l⟩⟩ _ _ n g (L.fact2 (by omega) (by kernel_rfl))).trans ?_
  rw[zk wL rfl]
theorem zB0(m:Int):zkp m adr 6:=⟨fun l a c e=>(uU.1 e).1,fun l h n hn _ hl=>zr7 hl h n hn⟩
noncomputable def eqV(t:TypeId)(x y:Value):Option Value:=match eqA En 20 t x y with|some r=>some (.bool r)|none=>none
theorem zj3(a c:Int):eqV 29 (.agg #[iv a,iv c]) (.agg #[iv a,iv c])=some (.bool true):=by
 have e:eqA En 20 29 (.agg #[iv a,iv c]) (.agg #[iv a,iv c])=(match some (a==a) with|some true=>(match some (c==c) with|some true=>some true|some false=>some false|none=>none)|some false=>some false|none=>none):=by kernel_rfl
 unfold eqV
 rw[e,beq_self_eq_true,beq_self_eq_true]
theorem ja:eqV 43 (.agg #[iv 0,iv 0,iv 0,iv 0]) (.agg #[iv 0,iv 0,iv 0,iv 0])=some (.bool true):=by kernel_rfl
structure Ed where
 k:Nat
 r:Nat
 c:Nat
 s:Bsy
/-! What is true of all errors of a parser. -/
def Er(Q:Nat→Nat→Prop)(f:PR):Prop:=∀ k p c,f k= .err p c→Q p c
section
variable (ts:List Tk) (E:Nat) (A:Bsy→Option (Nat×Nat)) {Q:Nat→Nat→Prop}
theorem jJ(hQ:∀ k,Q (place ts E k) 13){k p c:Nat}(h:jO ts E k= .err p c):Q p c:=by
 unfold jO at h
 cases h
 exact hQ k
theorem zqo{ops:List (Bsy)}{f:PR}(hf:Er Q f):∀ (i:Nat) (x:Tr) (k p c:Nat),qv ts ops f i x k= .err p c→Q p c:=by
 intro i
 induction i with
 |zero=>intro x k p c h;simp only[qv] at h;cases h
 |succ i ih=>
  intro x k p c h
  simp only[qv] at h
  split at h
  ·cases h
  ·split at h
   next e=>cases h;exact hf _ _ _ e
   next=>exact ih _ _ _ _ h
theorem zhQ{ops:List (Bsy)}{f:PR}(hf:Er Q f):Er Q (qM ts ops f):=by
 intro k p c h
 simp only[qM] at h
 split at h
 next e=>cases h;exact hf _ _ _ e
 next=>exact zqo ts hf _ _ _ _ _ h
theorem zow{f:PR}(hf:Er Q f):Er Q (vr ts f):=by
 intro k p c h
 simp only[vr] at h
 split at h
 next e=>cases h;exact hf _ _ _ e
 next=>
  split at h
  ·cases h
  ·split at h
   next e=>cases h;exact hf _ _ _ e
   next=>cases h
theorem zqE{f g:PR}(hf:Er Q f)(hg:Er Q g):Er Q (ub ts f g):=by
 intro k p c h
 simp only[ub] at h
 split at h
 next e=>cases h;exact hf _ _ _ e
 next=>
  split at h
  ·cases h
  ·split at h
   next e=>cases h;exact hg _ _ _ e
   next=>cases h
theorem zsA{f g:PR}(hf:Er Q f)(hg:Er Q g):Er Q (unP ts f g):=by
 intro k p c h
 simp only[unP] at h
 split at h
 ·exact hf _ _ _ h
 ·split at h
  next e=>cases h;exact hg _ _ _ e
  next=>cases h
theorem zpe(hQ:∀ k,Q (place ts E k) 13){f:PR}(hf:Er Q f)(nm:Bsy):∀ (i:Nat) (acc:List Tr) (k p c:Nat),jQ ts E f nm i acc k= .err p c→Q p c:=by
 intro i
 induction i with
 |zero=>intro acc k p c h;exact jJ ts E hQ h
 |succ i ih=>
  intro acc k p c h
  simp only[jQ] at h
  split at h
  next e=>cases h;exact hf _ _ _ e
  next=>
   split at h
   ·exact ih _ _ _ _ h
   ·split at h
    ·cases h
    ·exact jJ ts E hQ h
theorem znY(hQ:∀ k,Q (place ts E k) 13){f:PR}(hf:Er Q f)(x:Tk):Er Q (qS ts E A f x):=by
 intro k p c h
 simp only[qS] at h
 split at h
 ·simp only[yf] at h
  split at h
  ·exact jJ ts E hQ h
  ·split at h
   ·cases h
   ·exact zpe ts E hQ hf _ _ _ _ _ _ h
 ·split at h
  ·cases h
  ·split at h
   ·cases h
   ·split at h
    ·exact jJ ts E hQ h
    ·split at h
     ·cases h
     ·split at h
      ·exact jJ ts E hQ h
      ·cases h
theorem zny(hQ:∀ k,Q (place ts E k) 13){f:PR}(hf:Er Q f):Er Q (qz ts E A f):=by
 intro k p c h
 simp only[qz] at h
 split at h
 ·exact jJ ts E hQ h
 ·split at h
  ·cases h
  ·split at h
   ·split at h
    ·cases h
    ·exact jJ ts E hQ h
   ·split at h
    ·exact znY ts E A hQ hf _ _ _ _ h
    ·split at h
     ·split at h
      ·split at h
       next e=>cases h;exact hf _ _ _ e
       next=>
        split at h
        ·cases h
        ·exact jJ ts E hQ h
      ·exact jJ ts E hQ h
     ·exact jJ ts E hQ h
theorem zwV(hQ:∀ k,Q (place ts E k) 13)(h14:Q 0 14):∀ d,Er Q (lv ts E A d).form∧Er Q (lv ts E A d).pow∧Er Q (lv ts E A d).un:=by
 intro d
 induction d with
 |zero=>exact⟨fun _ _ _ h=>by cases h;exact h14,fun _ _ _ h=>by cases h;exact h14,fun _ _ _ h=>by cases h;exact h14⟩
 |succ d ih=>
  obtain⟨i1,i2,i3⟩:=ih
  have hu:=zsA ts (zny ts E A hQ i1) i3
  have hw:=zqE ts hu i2
  exact⟨zow ts (zhQ ts (zhQ ts hw)),hw,hu⟩
end
theorem zrb(M:Nat):∀ (N:Nat) (l:Bsy) (at_:Nat) (acc:List Tk),(l≠[]→at_+l.length≤M)→(∀ x∈acc,x.at_≤M)→match jq N l at_ acc with| .bad e=>e≤M| .ok ts=>∀ x∈ts,x.at_≤M:=by
 intro N
 induction N with
 |zero=>intro l at_ acc hl ha;exact ha
 |succ N ih=>
  intro l at_ acc hl ha
  cases l with
  |nil=>exact ha
  |cons c r=>
   have hM:=hl (by simp)
   rw[lC] at hM
   simp only[jq]
   by_cases h1:kd c=1
   ·rw[if_pos h1]
    exact ih r (at_+1) acc (fun _=>by omega) ha
   ·rw[if_neg h1]
    by_cases h2:(zD (c::r)).2.2.2=0
    ·rw[if_pos h2]
     show at_≤M
     omega
    ·rw[if_neg h2]
     refine ih _ _ _ (fun hne=>?_) ?_
     ·rw[List.length_drop,lC]
      have:(zD (c::r)).2.2.2 < (c::r).length:=by
       rcases Nat.lt_or_ge (zD (c::r)).2.2.2 (c::r).length with h3|h3
       ·exact h3
       ·exact absurd (List.drop_eq_nil_of_le h3) hne
      rw[lC] at this
      omega
     ·intro x hx
      rcases List.mem_append.1 hx with hx|hx
      ·exact ha x hx
      ·rw[List.mem_singleton] at hx
       subst hx
       show at_≤M
       omega
theorem zaK{A:Bsy→Option (Nat×Nat)}{s:Bsy}{p c:Nat}(h:jo A s= .err p c):c≠0∧p≤300:=by
 unfold jo at h
 split at h
 ·cases h;exact⟨by decide,by decide⟩
 next hl=>
  have hat:=zrb s.length (s.length+1) s 0 [] (fun _=>by omega) (by simp)
  split at h
  next e he=>
   rw[he] at hat
   cases h
   have hat':p≤s.length:=hat
   exact⟨by decide,by omega⟩
  next ts he=>
   rw[he] at hat
   have hQ:∀ k,(fun p c=>c≠0∧p≤300) (place ts s.length k) 13:=fun k=>by
    refine⟨by decide,?_⟩
    unfold place
    split
    next x hx=>have:=hat x (List.mem_of_getElem? hx);omega
    next=>omega
   split at h
   next e=>cases h;exact(zwV (Q:=fun p c=>c≠0∧p≤300) _ _ _ hQ ⟨by decide,by decide⟩ 41).1 _ _ _ e
   next=>
    split at h
    ·exact jJ (Q:=fun p c=>c≠0∧p≤300) _ _ hQ h
    ·split at h
     ·cases h;exact⟨by decide,by decide⟩
     ·cases h
end Go.PanE
