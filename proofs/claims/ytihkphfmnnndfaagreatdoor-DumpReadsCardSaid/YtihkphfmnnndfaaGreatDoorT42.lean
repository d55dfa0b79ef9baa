/-
 Part 42 of the proof of Rows.DumpReadsCardSaid: The reference's names: paths printed by sx.py (m27.py).
 The reference's numbers and names: the laws of both Parse.
 What both readers of a line make, in plain words; small lemmas.
 No conditions.
-/
import Derived.Test.YtihkphfmnnndfaaGreatDoorT41
namespace Go.PanE
open Go.Proofs
theorem co_1(h:Heap)(c n:Nat)(_h1:1≤c)(_h2:c≤50)(_ll:(⟨#[65,66,67,68,69,70,71,72,73,74,75,76,77,78,79,80,81,82,83,84,85,86,87,88,89,90]⟩:ByteArray).data.toList.length=26)(_h3:c≤26)(a0:decide (((c:Int):Int)≤26)=true):Fn n 41 [iv (c:Int)] h (.string (cutS ⟨#[65,66,67,68,69,70,71,72,73,74,75,76,77,78,79,80,81,82,83,84,85,86,87,88,89,90]⟩ ((c:Int) - 1) (c:Int))) h.fresh:=
 fnV (kZ h) [yT a0,yW ((c:Int) - 1),cB 9 ⟨#[65,66,67,68,69,70,71,72,73,74,75,76,77,78,79,80,81,82,83,84,85,86,87,88,89,90]⟩ ((c:Int) - 1) (c:Int),.z 0]
theorem co_2(h:Heap)(c n:Nat)(_h1:1≤c)(_h2:c≤50)(_ll:(⟨#[65,66,67,68,69,70,71,72,73,74,75,76,77,78,79,80,81,82,83,84,85,86,87,88,89,90]⟩:ByteArray).data.toList.length=26)(_h3:26 < c)(a0:decide (((c:Int):Int)≤26)=false):Fn n 41 [iv (c:Int)] h (.string (⟨#[65]⟩++(cutS ⟨#[65,66,67,68,69,70,71,72,73,74,75,76,77,78,79,80,81,82,83,84,85,86,87,88,89,90]⟩ ((c:Int) - 27) ((c:Int) - 26)))) h.fresh:=
 fnV (kZ h) [yF a0,yW ((c:Int) - 27),yW ((c:Int) - 26),cB 9 ⟨#[65,66,67,68,69,70,71,72,73,74,75,76,77,78,79,80,81,82,83,84,85,86,87,88,89,90]⟩ ((c:Int) - 27) ((c:Int) - 26),.x [.v (.string (⟨#[65]⟩++(cutS ⟨#[65,66,67,68,69,70,71,72,73,74,75,76,77,78,79,80,81,82,83,84,85,86,87,88,89,90]⟩ ((c:Int) - 27) ((c:Int) - 26))))] fun _=>[⟨strBin .add ⟨#[65]⟩ (cutS ⟨#[65,66,67,68,69,70,71,72,73,74,75,76,77,78,79,80,81,82,83,84,85,86,87,88,89,90]⟩ ((c:Int) - 27) ((c:Int) - 26))=some (.string (⟨#[65]⟩++(cutS ⟨#[65,66,67,68,69,70,71,72,73,74,75,76,77,78,79,80,81,82,83,84,85,86,87,88,89,90]⟩ ((c:Int) - 27) ((c:Int) - 26)))),str_add (by have _q:=cutS_le ⟨#[65,66,67,68,69,70,71,72,73,74,75,76,77,78,79,80,81,82,83,84,85,86,87,88,89,90]⟩ ((c:Int) - 27) ((c:Int) - 26) (Nat.le_of_eq _ll);show 1+_≤9223372036854775807;omega)⟩],.z 0]
theorem nn_1(h:Heap)(r:Int)(c n:Nat)(e d:ByteArray)(_he:e.size≤100)(_hd:d.size≤100)(a0:Pu n 21 [.agg #[iv r,iv (c:Int)]] (.bool true) (al h.fresh 29 [iv r,iv (c:Int)]))(a1:Pu n 41 [iv (c:Int)] (.string e) (al h.fresh 29 [iv r,iv (c:Int)]))(a2:Pu n 42 [iv r] (.string d) (al h.fresh 29 [iv r,iv (c:Int)])):Fn n 23 [.agg #[iv r,iv (c:Int)]] h (.string (e++d)) (al h.fresh 29 [iv r,iv (c:Int)]):=
 fnV (kZ h) [aS 29 [iv r,iv (c:Int)],.g 0 29 0 2,yP a0,.l 0 3 1,yP a1,.l 0 3 0,yP a2,.x [.v (.string (e++d))] fun _=>[⟨strBin .add e d=some (.string (e++d)),str_add (by omega)⟩],yN (h.nx+1),.q (.l 0 3 1),.q (.l 0 3 0),.q (.l 0 3 0),.z 0]
theorem fb_out(h:Heap)(s:ByteArray)(c B2 n:Nat)(_hc:c≤51)(a0:decide (((c:Int):Int)≤50)=false):Bd n 50 [1,0,1,0,0] Tryz.f30 [(0,.string s),(2,pv B2 0),(3,iv (c:Int))] h (.exit 0) [(2,pv B2 0)] h:=
 bdF (kZ h) [yF a0,.z 0]
theorem fb_short(h:Heap)(s e:ByteArray)(c B2 n:Nat)(_hc:c≤51)(a0:decide (((c:Int):Int)≤50)=true)(a1:Pu n 41 [iv (c:Int)] (.string e) h)(a2:decide ((s.data.toList.length:Int)≤e.data.toList.length)=true):Bd n 50 [1,0,1,0,0] Tryz.f30 [(0,.string s),(2,pv B2 0),(3,iv (c:Int))] h .normal [(0,.string s),(2,pv B2 0),(3,iv ((c:Int)+1))] h:=
 bdF (kZ h) [yT a0,yP a1,yT a2,yW ((c:Int)+1),.z 0]
theorem fb_ne(h:Heap)(s e:ByteArray)(c B2 n:Nat)(_hc:c≤51)(_hl:e.data.toList.length < s.data.toList.length)(a0:decide (((c:Int):Int)≤50)=true)(a1:Pu n 41 [iv (c:Int)] (.string e) h)(a2:decide ((s.data.toList.length:Int)≤e.data.toList.length)=false)(a3:(!bqS (cutS s 0 e.data.toList.length) e)=true):Bd n 50 [1,0,1,0,0] Tryz.f30 [(0,.string s),(2,pv B2 0),(3,iv (c:Int))] h .normal [(0,.string s),(2,pv B2 0),(3,iv ((c:Int)+1))] h:=
 bdF (kZ h) [yT a0,yP a1,yF a2,cH 9 s e.data.toList.length,yT a3,yW ((c:Int)+1),.z 0]
theorem fb_bad(h:Heap)(s e:ByteArray)(N:Int)(c B2 n:Nat)(_hc:c≤51)(_hl:e.data.toList.length < s.data.toList.length)(a0:decide (((c:Int):Int)≤50)=true)(a1:Pu n 41 [iv (c:Int)] (.string e) h)(a2:decide ((s.data.toList.length:Int)≤e.data.toList.length)=false)(a3:(!bqS (cutS s 0 e.data.toList.length) e)=false)(a4:Pu n 51 [.string (cutS s e.data.toList.length s.data.toList.length)] (.agg #[iv N,.bool false]) h):Bd n 50 [1,0,1,0,0] Tryz.f30 [(0,.string s),(2,pv B2 0),(3,iv (c:Int))] h .normal [(0,.string s),(2,pv B2 0),(3,iv ((c:Int)+1))] (pt (al (pt (al h 117 [iv 0,.bool false]) h.nx 117 [iv N,.bool false]) 29 [iv 0,iv 0]) (h.nx+1) 29 [iv N,iv (c:Int)]):=
 bdF (kZ h) [yT a0,yP a1,yF a2,cH 9 s e.data.toList.length,yF a3,cL 9 s e.data.toList.length,yP a4,aS 117 [iv 0,.bool false],.w 0 117 0 (.agg #[iv N,.bool false]),.l 0 2 0,aS 29 [iv 0,iv 0],.w 1 29 0 (.agg #[iv N,iv (c:Int)]),.l 0 4 1,yW ((c:Int)+1),.z 0]
theorem fb_ng(h:Heap)(s e:ByteArray)(N:Int)(c B2 n:Nat)(_hc:c≤51)(_hl:e.data.toList.length < s.data.toList.length)(a0:decide (((c:Int):Int)≤50)=true)(a1:Pu n 41 [iv (c:Int)] (.string e) h)(a2:decide ((s.data.toList.length:Int)≤e.data.toList.length)=false)(a3:(!bqS (cutS s 0 e.data.toList.length) e)=false)(a4:Pu n 51 [.string (cutS s e.data.toList.length s.data.toList.length)] (.agg #[iv N,.bool true]) h)(a5:Pu n 21 [.agg #[iv N,iv (c:Int)]] (.bool false) (pt (al (pt (al h 117 [iv 0,.bool false]) h.nx 117 [iv N,.bool true]) 29 [iv 0,iv 0]) (h.nx+1) 29 [iv N,iv (c:Int)])):Bd n 50 [1,0,1,0,0] Tryz.f30 [(0,.string s),(2,pv B2 0),(3,iv (c:Int))] h .normal [(0,.string s),(2,pv B2 0),(3,iv ((c:Int)+1))] (pt (al (pt (al h 117 [iv 0,.bool false]) h.nx 117 [iv N,.bool true]) 29 [iv 0,iv 0]) (h.nx+1) 29 [iv N,iv (c:Int)]):=
 bdF (kZ h) [yT a0,yP a1,yF a2,cH 9 s e.data.toList.length,yF a3,cL 9 s e.data.toList.length,yP a4,aS 117 [iv 0,.bool false],.w 0 117 0 (.agg #[iv N,.bool true]),.l 0 2 0,aS 29 [iv 0,iv 0],.w 1 29 0 (.agg #[iv N,iv (c:Int)]),.l 0 4 1,.g 1 29 0 2,yP a5,yW ((c:Int)+1),.z 0]
theorem fb_nn(h:Heap)(s e d:ByteArray)(N:Int)(c B2 n:Nat)(_hc:c≤51)(_hl:e.data.toList.length < s.data.toList.length)(a0:decide (((c:Int):Int)≤50)=true)(a1:Pu n 41 [iv (c:Int)] (.string e) h)(a2:decide ((s.data.toList.length:Int)≤e.data.toList.length)=false)(a3:(!bqS (cutS s 0 e.data.toList.length) e)=false)(a4:Pu n 51 [.string (cutS s e.data.toList.length s.data.toList.length)] (.agg #[iv N,.bool true]) h)(a5:Pu n 21 [.agg #[iv N,iv (c:Int)]] (.bool true) (pt (al (pt (al h 117 [iv 0,.bool false]) h.nx 117 [iv N,.bool true]) 29 [iv 0,iv 0]) (h.nx+1) 29 [iv N,iv (c:Int)]))(a6:Pu n 23 [.agg #[iv N,iv (c:Int)]] (.string d) (pt (al (pt (al h 117 [iv 0,.bool false]) h.nx 117 [iv N,.bool true]) 29 [iv 0,iv 0]) (h.nx+1) 29 [iv N,iv (c:Int)]))(a7:bqS d s=false):Bd n 50 [1,0,1,0,0] Tryz.f30 [(0,.string s),(2,pv B2 0),(3,iv (c:Int))] h .normal [(0,.string s),(2,pv B2 0),(3,iv ((c:Int)+1))] (pt (al (pt (al h 117 [iv 0,.bool false]) h.nx 117 [iv N,.bool true]) 29 [iv 0,iv 0]) (h.nx+1) 29 [iv N,iv (c:Int)]):=
 bdF (kZ h) [yT a0,yP a1,yF a2,cH 9 s e.data.toList.length,yF a3,cL 9 s e.data.toList.length,yP a4,aS 117 [iv 0,.bool false],.w 0 117 0 (.agg #[iv N,.bool true]),.l 0 2 0,aS 29 [iv 0,iv 0],.w 1 29 0 (.agg #[iv N,iv (c:Int)]),.l 0 4 1,.g 1 29 0 2,yP a5,.g 1 29 0 2,yP a6,yF a7,yW ((c:Int)+1),.z 0]
theorem fb_ret(h:Heap)(s e d:ByteArray)(N:Int)(c B2 n:Nat)(_hc:c≤51)(_hl:e.data.toList.length < s.data.toList.length)(_b2:B2 < h.nx)(g2:h.get B2=some (.row 78 [iv 0,iv 0,.bool false] 0 false))(a0:decide (((c:Int):Int)≤50)=true)(a1:Pu n 41 [iv (c:Int)] (.string e) h)(a2:decide ((s.data.toList.length:Int)≤e.data.toList.length)=false)(a3:(!bqS (cutS s 0 e.data.toList.length) e)=false)(a4:Pu n 51 [.string (cutS s e.data.toList.length s.data.toList.length)] (.agg #[iv N,.bool true]) h)(a5:Pu n 21 [.agg #[iv N,iv (c:Int)]] (.bool true) (pt (al (pt (al h 117 [iv 0,.bool false]) h.nx 117 [iv N,.bool true]) 29 [iv 0,iv 0]) (h.nx+1) 29 [iv N,iv (c:Int)]))(a6:Pu n 23 [.agg #[iv N,iv (c:Int)]] (.string d) (pt (al (pt (al h 117 [iv 0,.bool false]) h.nx 117 [iv N,.bool true]) 29 [iv 0,iv 0]) (h.nx+1) 29 [iv N,iv (c:Int)]))(a7:bqS d s=true):Bd n 50 [1,0,1,0,0] Tryz.f30 [(0,.string s),(2,pv B2 0),(3,iv (c:Int))] h .ret [(2,pv B2 0)] (pt (pt (al (pt (al h 117 [iv 0,.bool false]) h.nx 117 [iv N,.bool true]) 29 [iv 0,iv 0]) (h.nx+1) 29 [iv N,iv (c:Int)]) B2 78 [iv N,iv (c:Int),.bool true]):=
 bdF (kI (ko g2)) [yT a0,yP a1,yF a2,cH 9 s e.data.toList.length,yF a3,cL 9 s e.data.toList.length,yP a4,aS 117 [iv 0,.bool false],.w 1 117 0 (.agg #[iv N,.bool true]),.l 1 2 0,aS 29 [iv 0,iv 0],.w 2 29 0 (.agg #[iv N,iv (c:Int)]),.l 1 4 1,.g 2 29 0 2,yP a5,.g 2 29 0 2,yP a6,yT a7,.g 2 29 0 2,.w 0 78 0 (.agg #[iv N,iv (c:Int),.bool true]),.z 0]
theorem fn_ret(h hL:Heap)(s:ByteArray)(r c:Int)(n:Nat)(gL:hL.get h.nx=some (.row 78 [iv r,iv c,.bool true] 0 false))(a0:Lf n 50 [1,0,1,0,0] Tryz.f30 [(0,.string s),(2,pv h.nx 0),(3,iv 1)] (al h.fresh 78 [iv 0,iv 0,.bool false]) .ret [(2,pv h.nx 0)] hL):Fn n 30 [.string s] h (.agg #[iv r,iv c,.bool true]) hL:=
 fnV (kZ h) [aS 78 [iv 0,iv 0,.bool false],yS a0 (kI (ko gL)),.r 0 78 3]
theorem fn_ex(h hL:Heap)(s:ByteArray)(n:Nat)(gL:hL.get h.nx=some (.row 78 [iv 0,iv 0,.bool false] 0 false))(_l:h.nx < hL.nx)(a0:Lf n 50 [1,0,1,0,0] Tryz.f30 [(0,.string s),(2,pv h.nx 0),(3,iv 1)] (al h.fresh 78 [iv 0,iv 0,.bool false]) (.exit 0) [(2,pv h.nx 0)] hL):Fn n 30 [.string s] h (.agg #[iv 0,iv 0,.bool false]) (pt hL h.nx 78 [iv 0,iv 0,.bool false]):=
 fnV (kZ h) [aS 78 [iv 0,iv 0,.bool false],yS a0 (kI (ko gL)),.w 0 78 0 (.agg #[iv 0,iv 0,.bool false]),.r 0 78 3]
end Go.PanE
namespace Go.PanE
open Go.Proofs
theorem dig_head(u:Nat):∃ c t,Lib.decDigits u=c::t∧48≤c.toNat∧c.toNat≤57:=by
 induction u using Nat.strongRecOn with
 |ind u ih=>
  rw[Lib.decDigits]
  by_cases h:u < 10
  ·rw[dif_pos h]
   exact⟨_,_,rfl,by rw[ofNat_toNat (by omega)];omega,by rw[ofNat_toNat (by omega)];omega⟩
  ·rw[dif_neg h]
   obtain⟨c,t,e,h1⟩:=ih (u / 10) (by omega)
   rw[e]
   exact⟨c,_,rfl,h1⟩
theorem num2_law(l:List UInt8)(hl:l.length < 4000)(h:Heap)(n:Nat)(hn:4≤n):∃ N ok,RD n 51 [.string ⟨⟨l⟩⟩] h=some (.agg #[iv N,.bool ok],h)∧-9223372036854775808≤N∧N≤9223372036854775807∧(20 < l.length→ok=false)∧(∀ r,r≤1000→l=Lib.decDigits r→N=((r:Nat):Int)∧ok=true):=by
 obtain⟨n,rfl⟩:∃ m,n=m+1:=⟨n - 1,by omega⟩
 have hl4:(⟨⟨l⟩⟩:ByteArray).data.toList.length < 4000:=by show l.length < 4000;omega
 have low:∀ {X:Option (Value×Heap)} {v:List Value} {H:Heap},X=some (finish h (.agg ⟨v⟩) H)→h.nx≤H.wm→lowV h.nx 5 (.agg ⟨v⟩)=true→X=some (.agg ⟨v⟩,h):=fun e hw hv=>by rw[e,finish_low hw hv]
 cases l with
 |nil=>
  refine⟨0,false,low (pu_e h ⟨⟨[]⟩⟩ n hl4 rfl rfl) (by simp only[al,pt,Heap.wm_alloc,Heap.wm_put,Heap.wm_fresh];omega) rfl,by omega,by omega,fun h=>rfl,fun r _ e=>?_⟩
  obtain⟨c,t,e',_⟩:=dig_head r
  rw[e'] at e;cases e
 |cons b t=>
  have hpos:0 < (⟨⟨b::t⟩⟩:ByteArray).data.toList.length:=by show 0 < (b::t).length;simp
  have e0:decide (((⟨⟨b::t⟩⟩:ByteArray).data.toList.length:Int)>0)=true:=gt_dec (b:=0) hpos
  have hb0:bAt ⟨⟨b::t⟩⟩ 0=b.toNat:=rfl
  have g0:(al h.fresh 117 [iv 0,.bool false]).get h.nx=some (.row 117 [iv 0,.bool false] 0 false):=gN (h:=h.fresh)
  have wA:(al h.fresh 117 [iv 0,.bool false]).wm=h.nx:=rfl
  have nA:(al h.fresh 117 [iv 0,.bool false]).nx=h.nx+1:=rfl
  have eL:(⟨⟨b::t⟩⟩:ByteArray).data.toList.length=t.length+1:=rfl
  by_cases hm:b.toNat=45
  ·have em:(((bAt ⟨⟨b::t⟩⟩ 0:Int):Int)==45)=true:=by rw[hb0];exact eqK (k:=45) hm
   have nodec:∀ r,(b::t:List UInt8)≠Lib.decDigits r:=fun r e=>by
    obtain⟨c,t',e',h1,h2⟩:=dig_head r
    rw[e'] at e;cases e;omega
   have none_:∀ {X:Option (Value×Heap)} {ok:Bool} {N:Int},X=some (.agg #[iv N,.bool ok],h)→-9223372036854775808≤N→N≤9223372036854775807→(20 < (b::t).length→ok=false)→∃ N ok,X=some (.agg #[iv N,.bool ok],h)∧-9223372036854775808≤N∧N≤9223372036854775807∧(20 < (b::t).length→ok=false)∧(∀ r,r≤1000→b::t=Lib.decDigits r→N=((r:Nat):Int)∧ok=true):=
    fun e h1 h2 h3=>⟨_,_,e,h1,h2,h3,fun r _ e=>absurd e (nodec r)⟩
   by_cases h1:t.length=0
   ·exact none_ (low (pu_m1 h ⟨⟨b::t⟩⟩ n hl4 hpos e0 em (by rw[eL,h1];rfl)) (by simp only[al,pt,Heap.wm_alloc,Heap.wm_put,Heap.wm_fresh];omega) rfl) (by omega) (by omega) (fun _=>rfl)
   have e1:((((⟨⟨b::t⟩⟩:ByteArray).data.toList.length:Nat):Int)==1)=false:=by rw[eL];exact neK (k:=1) (by omega)
   by_cases h20:20 < t.length+1
   ·exact none_ (low (pu_m2 h ⟨⟨b::t⟩⟩ n hl4 hpos e0 em e1 (by rw[eL];exact gt_dec (b:=20) h20)) (by simp only[al,pt,Heap.wm_alloc,Heap.wm_put,Heap.wm_fresh];omega) rfl) (by omega) (by omega) (fun _=>rfl)
   have e20:decide (((⟨⟨b::t⟩⟩:ByteArray).data.toList.length:Int)>20)=false:=by rw[eL];exact gt_dec' (b:=20) (by omega)
   have h20':¬ 20 < (b::t).length:=by rw[List.length_cons];omega
   obtain⟨hL,R,hR,nL,gL,wL,M⟩:=pl_loop (b::t) (by rw[List.length_cons];omega) n 1 h.nx t 1 0 (al h.fresh 117 [iv 0,.bool false]) rfl (by omega) (by omega) g0
   have gL0:=(gL h.nx).trans g0
   cases hf:foldD t 0 with
   |none=>
    rw[hf] at M
    exact none_ (low (pu_m3 h hL ⟨⟨b::t⟩⟩ 0 n gL0 (by omega) hl4 hpos (by omega) e0 em e1 e20 (Loops.fact' M (by omega) ⟨by kernel_rfl,by kernel_rfl,by kernel_rfl,by kernel_rfl,by kernel_rfl,trivial⟩)) (by omega) rfl) (by omega) (by omega) (fun h=>absurd h h20')
   |some u=>
    rw[hf] at M
    obtain⟨hu,M⟩:=M
    have LF:=Loops.fact' (ov:=mkOv [(0,.string ⟨⟨b::t⟩⟩),(2,pv h.nx 0),(3,iv 1),(7,.string ⟨⟨b::t⟩⟩),(8,iv (⟨⟨b::t⟩⟩:ByteArray).data.toList.length),(9,.bool true),(10,.bool true),(11,.string ⟨⟨b::t⟩⟩),(12,.int .u8 (bAt ⟨⟨b::t⟩⟩ 0:Int)),(13,.bool true),(14,.bool true),(15,.string ⟨⟨b::t⟩⟩),(16,iv (⟨⟨b::t⟩⟩:ByteArray).data.toList.length),(17,iv 1),(18,.bool false),(19,.bool false),(20,.string ⟨⟨b::t⟩⟩),(21,iv (⟨⟨b::t⟩⟩:ByteArray).data.toList.length),(22,.bool false),(23,.bool false),(4,.int .u64 0),(25,iv 1),(5,iv 1)]) M (by omega) ⟨by kernel_rfl,by kernel_rfl,by kernel_rfl,by kernel_rfl,by kernel_rfl,trivial⟩
    obtain⟨N,ok,hN1,hN2,eS,_⟩:=signed_law (u:=u) (by omega) true hL n (by omega)
    cases ok with
    |false=>exact none_ (low (pu_m4 h hL ⟨⟨b::t⟩⟩ ⟨⟨[]⟩⟩ u n N gL0 (by omega) hl4 hpos (by omega) e0 em e1 e20 LF eS) (by simp only[al,pt,Heap.wm_alloc,Heap.wm_put];omega) rfl) (by omega) (by omega) (fun h=>absurd h h20')
    |true=>
     have e42:=dec2_law hN1 hN2 (pt (al hL 117 [iv 0,.bool false]) hL.nx 117 [iv N,.bool true]) n (by omega)
     by_cases he:Lib.itoa N=b::t
     ·exact none_ (low (pu_m6 h hL ⟨⟨b::t⟩⟩ ⟨⟨Lib.itoa N⟩⟩ u n N gL0 (by omega) hl4 hpos (by omega) e0 em e1 e20 LF eS e42 (congrArg (! ·) ((beqL (Lib.itoa N) (b::t)).trans (decide_eq_true he)))) (by simp only[al,pt,Heap.wm_alloc,Heap.wm_put];omega) rfl) hN1 hN2 (fun h=>absurd h h20')
     ·exact none_ (low (pu_m5 h hL ⟨⟨b::t⟩⟩ ⟨⟨Lib.itoa N⟩⟩ u n N gL0 (by omega) hl4 hpos (by omega) e0 em e1 e20 LF eS e42 (congrArg (! ·) ((beqL (Lib.itoa N) (b::t)).trans (decide_eq_false he)))) (by simp only[al,pt,Heap.wm_alloc,Heap.wm_put];omega) rfl) (by omega) (by omega) (fun h=>absurd h h20')
  ·have em:(((bAt ⟨⟨b::t⟩⟩ 0:Int):Int)==45)=false:=by rw[hb0];exact neK (k:=45) hm
   have e1:((((⟨⟨b::t⟩⟩:ByteArray).data.toList.length:Nat):Int)==0)=false:=by rw[eL];exact neK (k:=0) (by omega)
   by_cases h20:20 < t.length+1
   ·refine⟨0,false,low (pu_p2 h ⟨⟨b::t⟩⟩ n hl4 hpos e0 em e1 (by rw[eL];exact gt_dec (b:=20) h20)) (by simp only[al,pt,Heap.wm_alloc,Heap.wm_put,Heap.wm_fresh];omega) rfl,by omega,by omega,fun _=>rfl,fun r hr e=>?_⟩
    have:=digits_len 3 r (by omega)
    rw[← e,List.length_cons] at this
    omega
   have e20:decide (((⟨⟨b::t⟩⟩:ByteArray).data.toList.length:Int)>20)=false:=by rw[eL];exact gt_dec' (b:=20) (by omega)
   have h20':¬ 20 < (b::t).length:=by rw[List.length_cons];omega
   obtain⟨hL,R,hR,nL,gL,wL,M⟩:=pl_loop (b::t) (by rw[List.length_cons];omega) n 0 h.nx (b::t) 0 0 (al h.fresh 117 [iv 0,.bool false]) rfl (by omega) (by omega) g0
   rw[List.length_cons] at hR
   have gL0:=(gL h.nx).trans g0
   cases hf:foldD (b::t) 0 with
   |none=>
    rw[hf] at M
    refine⟨0,false,low (pu_p3 h hL ⟨⟨b::t⟩⟩ 0 n gL0 (by omega) hl4 hpos (by omega) e0 em e1 e20 (Loops.fact' M (by omega) ⟨by kernel_rfl,by kernel_rfl,by kernel_rfl,by kernel_rfl,by kernel_rfl,trivial⟩)) (by omega) rfl,by omega,by omega,fun h=>absurd h h20',fun r hr e=>?_⟩
    rw[e,foldD_dec r hr] at hf
    cases hf
   |some u=>
    rw[hf] at M
    obtain⟨hu,M⟩:=M
    have LF:=Loops.fact' (ov:=mkOv [(0,.string ⟨⟨b::t⟩⟩),(2,pv h.nx 0),(3,iv 0),(7,.string ⟨⟨b::t⟩⟩),(8,iv (⟨⟨b::t⟩⟩:ByteArray).data.toList.length),(9,.bool true),(10,.bool true),(11,.string ⟨⟨b::t⟩⟩),(12,.int .u8 (bAt ⟨⟨b::t⟩⟩ 0:Int)),(13,.bool false),(14,.bool false),(15,.string ⟨⟨b::t⟩⟩),(16,iv (⟨⟨b::t⟩⟩:ByteArray).data.toList.length),(17,iv 0),(18,.bool false),(19,.bool false),(20,.string ⟨⟨b::t⟩⟩),(21,iv (⟨⟨b::t⟩⟩:ByteArray).data.toList.length),(22,.bool false),(23,.bool false),(4,.int .u64 0),(25,iv 0),(5,iv 0)]) M (by omega) ⟨by kernel_rfl,by kernel_rfl,by kernel_rfl,by kernel_rfl,by kernel_rfl,trivial⟩
    obtain⟨N,ok,hN1,hN2,eS,hS⟩:=signed_law (u:=u) (by omega) false hL n (by omega)
    have isr:∀ r,r≤1000→b::t=Lib.decDigits r→N=((r:Nat):Int)∧ok=true∧Lib.itoa N=b::t:=fun r hr e=>by
     rw[e,foldD_dec r hr] at hf
     cases hf
     obtain⟨h1,h2⟩:=hS (by omega) rfl
     exact⟨h1,h2,by rw[h1,itoa_nat,e]⟩
    cases ok with
    |false=>exact⟨0,false,low (pu_p4 h hL ⟨⟨b::t⟩⟩ ⟨⟨[]⟩⟩ u n N gL0 (by omega) hl4 hpos (by omega) e0 em e1 e20 LF eS) (by simp only[al,pt,Heap.wm_alloc,Heap.wm_put];omega) rfl,by omega,by omega,fun _=>rfl,fun r hr e=>by have:=(isr r hr e).2.1;cases this⟩
    |true=>
     have e42:=dec2_law hN1 hN2 (pt (al hL 117 [iv 0,.bool false]) hL.nx 117 [iv N,.bool true]) n (by omega)
     by_cases he:Lib.itoa N=b::t
     ·exact⟨N,true,low (pu_p6 h hL ⟨⟨b::t⟩⟩ ⟨⟨Lib.itoa N⟩⟩ u n N gL0 (by omega) hl4 hpos (by omega) e0 em e1 e20 LF eS e42 (congrArg (! ·) ((beqL (Lib.itoa N) (b::t)).trans (decide_eq_true he)))) (by simp only[al,pt,Heap.wm_alloc,Heap.wm_put];omega) rfl,hN1,hN2,fun h=>absurd h h20',fun r hr e=>⟨(isr r hr e).1,rfl⟩⟩
     ·exact⟨0,false,low (pu_p5 h hL ⟨⟨b::t⟩⟩ ⟨⟨Lib.itoa N⟩⟩ u n N gL0 (by omega) hl4 hpos (by omega) e0 em e1 e20 LF eS e42 (congrArg (! ·) ((beqL (Lib.itoa N) (b::t)).trans (decide_eq_false he)))) (by simp only[al,pt,Heap.wm_alloc,Heap.wm_put];omega) rfl,by omega,by omega,fun _=>rfl,fun r hr e=>absurd (isr r hr e).2.2 he⟩
abbrev LET:ByteArray:=⟨#[65,66,67,68,69,70,71,72,73,74,75,76,77,78,79,80,81,82,83,84,85,86,87,88,89,90]⟩
theorem let_cut:∀ {c:Nat},c < 26→cutS LET ((c:Nat):Int) (((c:Nat):Int)+1)=⟨⟨[UInt8.ofNat (65+c)]⟩⟩
 |0,_=>rfl|1,_=>rfl|2,_=>rfl|3,_=>rfl|4,_=>rfl|5,_=>rfl|6,_=>rfl|7,_=>rfl|8,_=>rfl|9,_=>rfl|10,_=>rfl|11,_=>rfl|12,_=>rfl
 |13,_=>rfl|14,_=>rfl|15,_=>rfl|16,_=>rfl|17,_=>rfl|18,_=>rfl|19,_=>rfl|20,_=>rfl|21,_=>rfl|22,_=>rfl|23,_=>rfl|24,_=>rfl|25,_=>rfl
 |c+26,h=>by omega
theorem col_law{c:Nat}(h1:1≤c)(h2:c≤50)(h:Heap)(n:Nat)(hn:1≤n):RD n 41 [iv ((c:Nat):Int)] h=some (.string ⟨⟨colB c⟩⟩,h):=by
 obtain⟨n,rfl⟩:∃ m,n=m+1:=⟨n - 1,by omega⟩
 by_cases hc:c≤26
 ·have e:=co_1 h c n h1 h2 rfl hc (decide_eq_true (by omega))
  have el:=let_cut (c:=c - 1) (by omega)
  rw[show(((c - 1:Nat):Int))=((c:Nat):Int) - 1 by omega,show((c:Nat):Int) - 1+1=((c:Nat):Int) by omega,show 65+(c - 1)=64+c by omega] at el
  rw[el] at e
  unfold colB
  rw[if_pos hc]
  exact fin_old e rfl
 ·have e:=co_2 h c n h1 h2 rfl (by omega) (decide_eq_false (by omega))
  have el:=let_cut (c:=c - 27) (by omega)
  rw[show(((c - 27:Nat):Int))=((c:Nat):Int) - 27 by omega,show((c:Nat):Int) - 27+1=((c:Nat):Int) - 26 by omega,show 65+(c - 27)=64+(c - 26) by omega] at el
  rw[el,show(⟨#[65]⟩++⟨⟨[UInt8.ofNat (64+(c - 26))]⟩⟩:ByteArray)=⟨⟨[65,UInt8.ofNat (64+(c - 26))]⟩⟩ from ba_app [65] _] at e
  unfold colB
  rw[if_neg hc]
  exact fin_old e rfl
theorem nm2_law{r c:Nat}(g:inG r c)(h:Heap)(n:Nat)(hn:4≤n):RD n 23 [.agg #[iv ((r:Nat):Int),iv ((c:Nat):Int)]] h=some (.string ⟨⟨nmB r c⟩⟩,h):=by
 obtain⟨n,rfl⟩:∃ m,n=m+1:=⟨n - 1,by omega⟩
 have e42:=dec2_law (a:=((r:Nat):Int)) (by have:=g.1;omega) (by have:=g.2.1;omega) (al h.fresh 29 [iv ((r:Nat):Int),iv ((c:Nat):Int)]) n (by omega)
 rw[itoa_nat] at e42
 have e:=nn_1 h ((r:Nat):Int) c n _ _ (by rw[ba_size];have:=col_len c;omega) (by rw[ba_size];have:=digits_len 3 r (by have:=g.2.1;omega);omega) (good2 g _ n (by omega)) (col_law g.2.2.1 g.2.2.2 _ n (by omega)) e42
 rw[ba_app] at e
 rw[e,finish_low (by simp only[al,Heap.wm_alloc,Heap.wm_fresh];omega) rfl]
 rfl
theorem col_pos(c:Nat):1≤(colB c).length:=by
 unfold colB
 split <;>simp
abbrev FbL(n:Nat):=Loops En (RD n) 50 5000 (sub [1,0,1,0,0] (bodyOf Tryz.f30))
theorem cut_to(l:List UInt8)(k:Nat):cutS ⟨⟨l⟩⟩ 0 ((k:Nat):Int)=⟨⟨l.take k⟩⟩:=cut0 _ _
theorem cut_from(l:List UInt8)(k:Nat):cutS ⟨⟨l⟩⟩ ((k:Nat):Int) ((⟨⟨l⟩⟩:ByteArray).data.toList.length:Nat)=⟨⟨l.drop k⟩⟩:=by
 unfold cutS
 show(⟨⟨(l.drop k).take (l.length - k)⟩⟩:ByteArray)=_
 rw[List.take_of_length_le (by rw[List.length_drop];omega)]
theorem fb_loop(l:List UInt8)(hl:l.length≤4000)(n:Nat)(hn:5≤n)(B2:Nat):∀ (k c:Nat) (h:Heap),c+k=51→1≤c→h.get B2=some (.row 78 [iv 0,iv 0,.bool false] 0 false)→B2≤h.wm→
  ∃ hL R,R≤k+1∧h.nx≤hL.nx∧(∀ x,x < B2→hL.get x=h.get x)∧B2≤hL.wm∧
   ((FbL n [(0,.string ⟨⟨l⟩⟩),(2,pv B2 0),(3,iv ((c:Nat):Int))] h (.exit 0) [(2,pv B2 0)] hL R∧hL.get B2=some (.row 78 [iv 0,iv 0,.bool false] 0 false)∧∀ r c',c≤c'→inG r c'→nmB r c'≠l)∨
    (∃ r c',inG r c'∧nmB r c'=l∧FbL n [(0,.string ⟨⟨l⟩⟩),(2,pv B2 0),(3,iv ((c:Nat):Int))] h .ret [(2,pv B2 0)] hL R∧hL.get B2=some (.row 78 [iv ((r:Nat):Int),iv ((c':Nat):Int),.bool true] 0 false))):=by
 intro k
 induction k with
 |zero=>
  intro c h hc h1 g2 hw
  refine⟨h,1,by omega,Nat.le_refl _,fun _ _=>rfl,hw,.inl ⟨.out (fb_out h ⟨⟨l⟩⟩ c B2 n (by omega) (decide_eq_false (by omega))),g2,fun r c' hcc g=>?_⟩⟩
  have:=g.2.2.2
  omega
 |succ k ih=>
  intro c h hc h1 g2 hw
  have h2l:=Heap.lt_of_get g2
  have e41:=col_law (c:=c) h1 (by omega) h n (by omega)
  have ec:decide ((((c:Nat):Int):Int)≤50)=true:=decide_eq_true (by omega)
  have hpr:∀ r,inG r c→nmB r c=l→(colB c).length < l.length∧l.take (colB c).length=colB c∧l.drop (colB c).length=Lib.decDigits r:=by
   rintro r g rfl
   unfold nmB
   obtain⟨x,t,e,_⟩:=dig_head r
   refine⟨by rw[List.length_append,e,List.length_cons];omega,List.take_left' rfl,List.drop_left' rfl⟩
  have next:∀ {H:Heap},BodyTo En (RD n) 50 5000 (sub [1,0,1,0,0] (bodyOf Tryz.f30)) [(0,.string ⟨⟨l⟩⟩),(2,pv B2 0),(3,iv ((c:Nat):Int))] h .normal [(0,.string ⟨⟨l⟩⟩),(2,pv B2 0),(3,iv (((c:Nat):Int)+1))] H→h.nx≤H.nx→(∀ x,x < h.nx→H.get x=h.get x)→B2≤H.wm→(∀ r,inG r c→nmB r c≠l)→
    ∃ hL R,R≤k+1+1∧h.nx≤hL.nx∧(∀ x,x < B2→hL.get x=h.get x)∧B2≤hL.wm∧
     ((FbL n [(0,.string ⟨⟨l⟩⟩),(2,pv B2 0),(3,iv ((c:Nat):Int))] h (.exit 0) [(2,pv B2 0)] hL R∧hL.get B2=some (.row 78 [iv 0,iv 0,.bool false] 0 false)∧∀ r c',c≤c'→inG r c'→nmB r c'≠l)∨
      (∃ r c',inG r c'∧nmB r c'=l∧FbL n [(0,.string ⟨⟨l⟩⟩),(2,pv B2 0),(3,iv ((c:Nat):Int))] h .ret [(2,pv B2 0)] hL R∧hL.get B2=some (.row 78 [iv ((r:Nat):Int),iv ((c':Nat):Int),.bool true] 0 false))):=by
   intro H hb nH gH wH hno
   obtain⟨hL,R,hR,nL,gL,wL,M⟩:=ih (c+1) H (by omega) (by omega) ((gH _ h2l).trans g2) wH
   refine⟨hL,R+1,by omega,by omega,fun x hx=>(gL x hx).trans (gH x (by omega)),wL,?_⟩
   rcases M with⟨L,g,hn'⟩|⟨r,c',h3,h4,L,g⟩
   ·refine .inl ⟨.on hb L,g,fun r c' hcc hg e=>?_⟩
    by_cases hcc':c'=c
    ·subst hcc';exact hno r hg e
    ·exact hn' r c' (by omega) hg e
   ·exact .inr ⟨r,c',h3,h4,.on hb L,g⟩
  by_cases hs:l.length≤(colB c).length
  ·exact next (fb_short h ⟨⟨l⟩⟩ ⟨⟨colB c⟩⟩ c B2 n (by omega) ec e41 (decide_eq_true (by show((l.length:Nat):Int)≤(((colB c).length:Nat):Int);omega))) (Nat.le_refl _) (fun _ _=>rfl) hw fun r g e=>by have:=(hpr r g e).1;omega
  have hlt:(colB c).length < l.length:=by omega
  have e2:decide ((((⟨⟨l⟩⟩:ByteArray).data.toList.length:Nat):Int)≤((⟨⟨colB c⟩⟩:ByteArray).data.toList.length:Nat))=false:=decide_eq_false (by show ¬ ((l.length:Nat):Int)≤(((colB c).length:Nat):Int);omega)
  have ect:cutS ⟨⟨l⟩⟩ 0 ((⟨⟨colB c⟩⟩:ByteArray).data.toList.length:Nat)=⟨⟨l.take (colB c).length⟩⟩:=cut_to l (colB c).length
  by_cases ht:l.take (colB c).length=colB c
  ·have e3:(!((cutS ⟨⟨l⟩⟩ 0 ((⟨⟨colB c⟩⟩:ByteArray).data.toList.length:Nat):ByteArray).data.toList==(⟨⟨colB c⟩⟩:ByteArray).data.toList))=false:=by
    rw[ect];exact congrArg (! ·) ((beqL _ _).trans (decide_eq_true ht))
   obtain⟨N,ok,e51,hN1,hN2,_,hN⟩:=num2_law (l.drop (colB c).length) (by rw[List.length_drop];have:=col_pos c;omega) h n (by omega)
   rw[← cut_from] at e51
   have K:∀ ok,Kp h (pt (al (pt (al h 117 [iv 0,.bool false]) h.nx 117 [iv N,.bool ok]) 29 [iv 0,iv 0]) (h.nx+1) 29 [iv N,iv ((c:Nat):Int)]):=fun ok=>((((Kp.refl h).al _ _).pt (b:=h.nx) _ _ (Nat.le_refl _) (by show h.nx < h.nx+1;omega)).al _ _).pt (b:=h.nx+1) _ _ (by omega) (by show h.nx+1 < h.nx+1+1;omega)
   have wK:∀ ok,B2≤(pt (al (pt (al h 117 [iv 0,.bool false]) h.nx 117 [iv N,.bool ok]) 29 [iv 0,iv 0]) (h.nx+1) 29 [iv N,iv ((c:Nat):Int)]).wm:=fun ok=>by simp only[al,pt,Heap.wm_alloc,Heap.wm_put];omega
   cases ok with
   |false=>exact next (fb_bad h ⟨⟨l⟩⟩ ⟨⟨colB c⟩⟩ N c B2 n (by omega) hlt ec e41 e2 e3 e51) (K false).nx (K false).get (wK false) fun r g e=>by have:=(hN r g.2.1 (hpr r g e).2.2).2;cases this
   |true=>
    have e21:=good2_law N ((c:Nat):Int) (pt (al (pt (al h 117 [iv 0,.bool false]) h.nx 117 [iv N,.bool true]) 29 [iv 0,iv 0]) (h.nx+1) 29 [iv N,iv ((c:Nat):Int)]) n (by omega)
    cases hg:goodB N ((c:Nat):Int) with
    |false=>
     rw[hg] at e21
     refine next (fb_ng h ⟨⟨l⟩⟩ ⟨⟨colB c⟩⟩ N c B2 n (by omega) hlt ec e41 e2 e3 e51 e21) (K true).nx (K true).get (wK true) fun r g e=>?_
     have:=(hN r g.2.1 (hpr r g e).2.2).1
     obtain⟨h1,h2,h3,h4⟩:=g
     rw[this] at hg
     unfold goodB at hg
     rw[decide_eq_true (by omega),decide_eq_true (by omega),decide_eq_true (by omega),decide_eq_true (by omega)] at hg
     cases hg
    |true=>
     rw[hg] at e21
     have hNr:∃ r:Nat,N=((r:Nat):Int)∧inG r c:=by
      unfold goodB at hg
      simp only[Bool.cond_false_right,Bool.and_eq_true,decide_eq_true_eq] at hg
      exact⟨N.toNat,by omega,by omega,by omega,by omega,by omega⟩
     obtain⟨r,rfl,hgr⟩:=hNr
     have e23:=nm2_law hgr (pt (al (pt (al h 117 [iv 0,.bool false]) h.nx 117 [iv ((r:Nat):Int),.bool true]) 29 [iv 0,iv 0]) (h.nx+1) 29 [iv ((r:Nat):Int),iv ((c:Nat):Int)]) n (by omega)
     by_cases he:nmB r c=l
     ·have hb:=fb_ret h ⟨⟨l⟩⟩ ⟨⟨colB c⟩⟩ ⟨⟨nmB r c⟩⟩ ((r:Nat):Int) c B2 n (by omega) hlt h2l g2 ec e41 e2 e3 e51 e21 e23 ((beqL _ _).trans (decide_eq_true he))
      refine⟨_,1,by omega,?_,fun x hx=>?_,?_,.inr ⟨r,c,hgr,he,.ret hb,gP (by show B2 < h.nx+1+1;omega)⟩⟩
      ·show h.nx≤h.nx+1+1;omega
      ·exact(Heap.get_put_other _ _ _ _ (by show B2 < h.nx+1+1;omega) (by omega)).trans ((K true).get x (by omega))
      ·rw[Heap.wm_put];have:=wK true;omega
     ·refine next (fb_nn h ⟨⟨l⟩⟩ ⟨⟨colB c⟩⟩ ⟨⟨nmB r c⟩⟩ ((r:Nat):Int) c B2 n (by omega) hlt ec e41 e2 e3 e51 e21 e23 ((beqL _ _).trans (decide_eq_false he))) (K true).nx (K true).get (wK true) fun r' g' e'=>?_
      have:=(hN r' g'.2.1 (hpr r' g' e').2.2).1
      have hrr:r=r':=by omega
      subst hrr
      exact he e'
  ·have e3:(!((cutS ⟨⟨l⟩⟩ 0 ((⟨⟨colB c⟩⟩:ByteArray).data.toList.length:Nat):ByteArray).data.toList==(⟨⟨colB c⟩⟩:ByteArray).data.toList))=true:=by
    rw[ect];exact congrArg (! ·) ((beqL _ _).trans (decide_eq_false ht))
   exact next (fb_ne h ⟨⟨l⟩⟩ ⟨⟨colB c⟩⟩ c B2 n (by omega) hlt ec e41 e2 e3) (Nat.le_refl _) (fun _ _=>rfl) hw fun r g e=>ht (hpr r g e).2.1
theorem adrB_at{l:List UInt8}(hl:l.length≤4000)(h:Heap)(n:Nat)(hn:6≤n):
  match adr l with
  |some (a,c)=>RD n 30 [.string ⟨⟨l⟩⟩] h=some (.agg #[iv (a:Int),iv (c:Int),.bool true],h)
  |none=>∃ a c:Int,RD n 30 [.string ⟨⟨l⟩⟩] h=some (.agg #[iv a,iv c,.bool false],h):=by
 obtain⟨n,rfl⟩:∃ m,n=m+1:=⟨n - 1,by omega⟩
 obtain⟨hL,R,hR,nL,gL,wL,M⟩:=fb_loop l hl n (by omega) h.nx 50 1 (al h.fresh 78 [iv 0,iv 0,.bool false]) rfl (by omega) (gN (h:=h.fresh)) (Nat.le_refl _)
 have nA:(al h.fresh 78 [iv 0,iv 0,.bool false]).nx=h.nx+1:=rfl
 rcases M with⟨L,g,hno⟩|⟨r,c,hg,he,L,g⟩
 ·have e:adr l=none:=by
   cases e:adr l with
   |none=>rfl
   |some v=>
    obtain⟨r,c⟩:=v
    obtain⟨hg,he⟩:=adr_iff.1 e
    exact absurd he (hno r c hg.2.2.1 hg)
  rw[e]
  refine⟨0,0,(fn_ex h hL ⟨⟨l⟩⟩ n g (by omega) (L.fact' (by omega) ⟨by kernel_rfl,by kernel_rfl,by kernel_rfl,trivial⟩)).trans ?_⟩
  rw[finish_low (by rw[Heap.wm_put];omega) rfl]
 ·rw[adr_iff.2 ⟨hg,he⟩]
  refine(fn_ret h hL ⟨⟨l⟩⟩ _ _ n g (L.fact' (by omega) ⟨by kernel_rfl,by kernel_rfl,by kernel_rfl,trivial⟩)).trans ?_
  rw[finish_low wL rfl]
theorem adrB(m:Int):AdrB m adr 6:=⟨fun l a c e=>(adr_iff.1 e).1,fun l h n hn _ hl=>adrB_at hl h n hn⟩
end Go.PanE
namespace Go.PanE
open Go.Proofs
/-- Are two plain values alike? -/
noncomputable def eqV(t:TypeId)(x y:Value):Option Value:=match eqA En 20 t x y with|some r=>some (.bool r)|none=>none
theorem eqV29(a c:Int):eqV 29 (.agg #[iv a,iv c]) (.agg #[iv a,iv c])=some (.bool true):=by
 have e:eqA En 20 29 (.agg #[iv a,iv c]) (.agg #[iv a,iv c])=(match some (a==a) with|some true=>(match some (c==c) with|some true=>some true|some false=>some false|none=>none)|some false=>some false|none=>none):=by kernel_rfl
 unfold eqV
 rw[e,beq_self_eq_true,beq_self_eq_true]
theorem eqV43:eqV 43 (.agg #[iv 0,iv 0,iv 0,iv 0]) (.agg #[iv 0,iv 0,iv 0,iv 0])=some (.bool true):=by kernel_rfl
/-- What a source's text is: where it is wrong, and how (0: it is good). -/
def readM(s:List UInt8):Nat×Nat:=
 if 300 < s.length then(0,2)
 else match s with
  |[]=>(0,0)
  |b::t=>
   if b.toNat=61 then(match parseM adr t with| .err p c=>(p+1,c)| .ok _ _=>(0,0))
   else if s=[84,82,85,69] then(0,0) else if s=[70,65,76,83,69] then(0,0)
   else if 200 < (if b.toNat=39 then t else s).length then(0,2) else(0,0)
def spK(l:List UInt8):Nat:=(l.takeWhile (fun b=>b.toNat !=32)).length
structure Ed where
 k:Nat
 r:Nat
 c:Nat
 s:List UInt8
def edV(e:Ed):Value:=.agg #[iv ((e.k:Nat):Int),iv ((e.r:Nat):Int),iv ((e.c:Nat):Int),iv 0,iv 0,iv 0,iv 0,.string ⟨⟨e.s⟩⟩]
def edZ:Ed:=⟨0,0,0,[]⟩
/-- What a line is: an edit, where it is wrong, and how. -/
def lineM(l:List UInt8):Ed×Nat×Nat:=
 if spK l=l.length then(edZ,0,320)
 else match adr (l.take (spK l)) with
  |none=>(edZ,0,15)
  |some (r,c)=>
   if(readM (l.drop (spK l+1))).2≠0 then(edZ,(spK l+1+(readM (l.drop (spK l+1))).1),(readM (l.drop (spK l+1))).2)
   else(⟨1,r,c,l.drop (spK l+1)⟩,0,0)
theorem spK_le(l:List UInt8):spK l≤l.length:=(List.takeWhile_prefix _).length_le
theorem index_sp(l:List UInt8):Lib.index l [32]=if spK l=l.length then -1 else((spK l:Nat):Int):=by
 induction l with
 |nil=>rfl
 |cons b l ih=>
  unfold Lib.index
  by_cases hb:b.toNat=32
  ·have e:b=32:=UInt8.toNat_inj.1 hb
   subst e
   rfl
  ·have h1:[(32:UInt8)].isPrefixOf (b::l)=false:=by
    have:((32:UInt8)==b)=false:=by
     rw[beq_eq_false_iff_ne]
     rintro rfl
     exact hb rfl
    simp[List.isPrefixOf,this]
   have h2:spK (b::l)=spK l+1:=by
    unfold spK
    rw[List.takeWhile_cons,if_pos (by simpa using hb)];rfl
   rw[h1,h2,List.length_cons]
   rw[ih]
   by_cases hk:spK l=l.length
   ·simp[hk]
   ·have:((((spK l:Nat):Int))==(-1:Int))=false:=by
     rw[beq_eq_false_iff_ne];omega
    simp[this,hk]
theorem cut_sp(l:List UInt8):Lib.cut l [32]=if spK l=l.length then(l,[],false) else(l.take (spK l),l.drop (spK l+1),true):=by
 unfold Lib.cut
 rw[index_sp]
 by_cases hk:spK l=l.length
 ·rw[if_pos hk,if_pos hk,if_neg (by omega)]
 ·rw[if_neg hk,if_neg hk,if_pos (by omega)]
  rfl
/-! What is true of all errors of a parser. -/
def Er(Q:Nat→Nat→Prop)(f:PR):Prop:=∀ k p c,f k= .err p c→Q p c
section
variable (ts:List Tk) (E:Nat) (A:List UInt8→Option (Nat×Nat)) {Q:Nat→Nat→Prop}
theorem failR_nz(hQ:∀ k,Q (place ts E k) 13){k p c:Nat}(h:failR ts E k= .err p c):Q p c:=by
 unfold failR at h
 cases h
 exact hQ k
theorem rowF_nz{ops:List (List UInt8)}{f:PR}(hf:Er Q f):∀ (i:Nat) (x:Tr) (k p c:Nat),rowF ts ops f i x k= .err p c→Q p c:=by
 intro i
 induction i with
 |zero=>intro x k p c h;simp only[rowF] at h;cases h
 |succ i ih=>
  intro x k p c h
  simp only[rowF] at h
  split at h
  ·cases h
  ·split at h
   next e=>cases h;exact hf _ _ _ e
   next=>exact ih _ _ _ _ h
theorem rowP_nz{ops:List (List UInt8)}{f:PR}(hf:Er Q f):Er Q (rowP ts ops f):=by
 intro k p c h
 simp only[rowP] at h
 split at h
 next e=>cases h;exact hf _ _ _ e
 next=>exact rowF_nz ts hf _ _ _ _ _ h
theorem formP_nz{f:PR}(hf:Er Q f):Er Q (formP ts f):=by
 intro k p c h
 simp only[formP] at h
 split at h
 next e=>cases h;exact hf _ _ _ e
 next=>
  split at h
  ·cases h
  ·split at h
   next e=>cases h;exact hf _ _ _ e
   next=>cases h
theorem powP_nz{f g:PR}(hf:Er Q f)(hg:Er Q g):Er Q (powP ts f g):=by
 intro k p c h
 simp only[powP] at h
 split at h
 next e=>cases h;exact hf _ _ _ e
 next=>
  split at h
  ·cases h
  ·split at h
   next e=>cases h;exact hg _ _ _ e
   next=>cases h
theorem unP_nz{f g:PR}(hf:Er Q f)(hg:Er Q g):Er Q (unP ts f g):=by
 intro k p c h
 simp only[unP] at h
 split at h
 ·exact hf _ _ _ h
 ·split at h
  next e=>cases h;exact hg _ _ _ e
  next=>cases h
theorem argsF_nz(hQ:∀ k,Q (place ts E k) 13){f:PR}(hf:Er Q f)(nm:List UInt8):∀ (i:Nat) (acc:List Tr) (k p c:Nat),argsF ts E f nm i acc k= .err p c→Q p c:=by
 intro i
 induction i with
 |zero=>intro acc k p c h;exact failR_nz ts E hQ h
 |succ i ih=>
  intro acc k p c h
  simp only[argsF] at h
  split at h
  next e=>cases h;exact hf _ _ _ e
  next=>
   split at h
   ·exact ih _ _ _ _ h
   ·split at h
    ·cases h
    ·exact failR_nz ts E hQ h
theorem nameP_nz(hQ:∀ k,Q (place ts E k) 13){f:PR}(hf:Er Q f)(x:Tk):Er Q (nameP ts E A f x):=by
 intro k p c h
 simp only[nameP] at h
 split at h
 ·simp only[callP] at h
  split at h
  ·exact failR_nz ts E hQ h
  ·split at h
   ·cases h
   ·exact argsF_nz ts E hQ hf _ _ _ _ _ _ h
 ·split at h
  ·cases h
  ·split at h
   ·cases h
   ·split at h
    ·exact failR_nz ts E hQ h
    ·split at h
     ·cases h
     ·split at h
      ·exact failR_nz ts E hQ h
      ·cases h
theorem partP_nz(hQ:∀ k,Q (place ts E k) 13){f:PR}(hf:Er Q f):Er Q (partP ts E A f):=by
 intro k p c h
 simp only[partP] at h
 split at h
 ·exact failR_nz ts E hQ h
 ·split at h
  ·cases h
  ·split at h
   ·split at h
    ·cases h
    ·exact failR_nz ts E hQ h
   ·split at h
    ·exact nameP_nz ts E A hQ hf _ _ _ _ h
    ·split at h
     ·split at h
      ·split at h
       next e=>cases h;exact hf _ _ _ e
       next=>
        split at h
        ·cases h
        ·exact failR_nz ts E hQ h
      ·exact failR_nz ts E hQ h
     ·exact failR_nz ts E hQ h
theorem lv_nz(hQ:∀ k,Q (place ts E k) 13)(h14:Q 0 14):∀ d,Er Q (lv ts E A d).form∧Er Q (lv ts E A d).pow∧Er Q (lv ts E A d).un:=by
 intro d
 induction d with
 |zero=>exact⟨fun _ _ _ h=>by cases h;exact h14,fun _ _ _ h=>by cases h;exact h14,fun _ _ _ h=>by cases h;exact h14⟩
 |succ d ih=>
  obtain⟨i1,i2,i3⟩:=ih
  have hu:=unP_nz ts (partP_nz ts E A hQ i1) i3
  have hw:=powP_nz ts hu i2
  exact⟨formP_nz ts (rowP_nz ts (rowP_nz ts hw)),hw,hu⟩
end
theorem lexM_at(M:Nat):∀ (N:Nat) (l:List UInt8) (at_:Nat) (acc:List Tk),(l≠[]→at_+l.length≤M)→(∀ x∈acc,x.at_≤M)→match lexM N l at_ acc with| .bad e=>e≤M| .ok ts=>∀ x∈ts,x.at_≤M:=by
 intro N
 induction N with
 |zero=>intro l at_ acc hl ha;exact ha
 |succ N ih=>
  intro l at_ acc hl ha
  cases l with
  |nil=>exact ha
  |cons c r=>
   have hM:=hl (by simp)
   rw[List.length_cons] at hM
   simp only[lexM]
   by_cases h1:kd c=1
   ·rw[if_pos h1]
    exact ih r (at_+1) acc (fun _=>by omega) ha
   ·rw[if_neg h1]
    by_cases h2:(oneR (c::r)).2.2.2=0
    ·rw[if_pos h2]
     show at_≤M
     omega
    ·rw[if_neg h2]
     refine ih _ _ _ (fun hne=>?_) ?_
     ·rw[List.length_drop,List.length_cons]
      have:(oneR (c::r)).2.2.2 < (c::r).length:=by
       rcases Nat.lt_or_ge (oneR (c::r)).2.2.2 (c::r).length with h3|h3
       ·exact h3
       ·exact absurd (List.drop_eq_nil_of_le h3) hne
      rw[List.length_cons] at this
      omega
     ·intro x hx
      rcases List.mem_append.1 hx with hx|hx
      ·exact ha x hx
      ·rw[List.mem_singleton] at hx
       subst hx
       show at_≤M
       omega
theorem parseM_er{A:List UInt8→Option (Nat×Nat)}{s:List UInt8}{p c:Nat}(h:parseM A s= .err p c):c≠0∧p≤300:=by
 unfold parseM at h
 split at h
 ·cases h;exact⟨by decide,by decide⟩
 next hl=>
  have hat:=lexM_at s.length (s.length+1) s 0 [] (fun _=>by omega) (by simp)
  split at h
  next e he=>
   rw[he] at hat
   cases h
   have hat':p≤s.length:=hat
   exact⟨by decide,by omega⟩
  next ts he=>
   rw[he] at hat
   have hQ:∀ k,(fun p c=>c≠0∧p≤300) (place ts s.length k) 13:=fun k=>by
    refine⟨by decide,?_⟩
    unfold place
    split
    next x hx=>have:=hat x (List.mem_of_getElem? hx);omega
    next=>omega
   split at h
   next e=>cases h;exact(lv_nz (Q:=fun p c=>c≠0∧p≤300) _ _ _ hQ ⟨by decide,by decide⟩ 41).1 _ _ _ e
   next=>
    split at h
    ·exact failR_nz (Q:=fun p c=>c≠0∧p≤300) _ _ hQ h
    ·split at h
     ·cases h;exact⟨by decide,by decide⟩
     ·cases h
end Go.PanE
