/-
 Part 25 of the proof of Rows.DumpReadsCardSaid: lex.one as a function of bytes.
 The reference's digit, letter, number, next: printed by sx.py (m6.py).
 The reference's next: paths printed by sx.py (m7.py).
 The reference's number and next as functions of bytes: the same as lex.one's.
 No conditions.
-/
import Derived.Test.YtihkphfmnnndfaaGreatDoorT24
namespace Go.PanE
open Go.Proofs
/-- The number that digits spell. -/
def dval(acc:Nat):List UInt8→Nat
 |[]=>acc
 |c::r=>dval (acc * 10+(c.toNat - 48)) r
theorem dval_ge:∀ (l:List UInt8) (acc:Nat),acc≤dval acc l:=by
 intro l
 induction l with
 |nil=>intro acc;exact Nat.le_refl _
 |cons c r ih=>intro acc;exact Nat.le_trans (by omega) (ih _)
/-- Is a byte a digit? -/
def dig(b:UInt8):Prop:=48≤b.toNat∧b.toNat≤57
def tabP(n k:Nat):Bool:=
 (k==2)==(Nat.ble 48 n && Nat.ble n 57) &&
  (k==3)==((Nat.ble 97 n && Nat.ble n 122) || (Nat.ble 65 n && Nat.ble n 90)) &&
  (k==1)==Nat.beq n 32 && (k==4)==Nat.beq n 34 &&
  (k==5)==[43,45,42,47,37,94,38,61,60,62,40,41,44,58].contains n
theorem kd_table:((List.range 256).all fun n=>tabP n (kdV (kind_v (n:Int))))=true:=by kernel_rfl
theorem tabP_facts{n k:Nat}(h:tabP n k=true):(k=2↔48≤n∧n≤57)∧(k=3↔(97≤n∧n≤122)∨(65≤n∧n≤90))∧(k=1↔n=32)∧(k=4↔n=34)∧(k=5↔n∈[43,45,42,47,37,94,38,61,60,62,40,41,44,58]):=by
 unfold tabP at h
 rw[Bool.and_eq_true,Bool.and_eq_true,Bool.and_eq_true,Bool.and_eq_true] at h
 obtain⟨⟨⟨⟨h2,h3⟩,h1⟩,h4⟩,h5⟩:=h
 have h2:=eq_of_beq h2
 have h3:=eq_of_beq h3
 have h1:=eq_of_beq h1
 have h4:=eq_of_beq h4
 have h5:=eq_of_beq h5
 have q:∀ j:Nat,k=j↔(k==j)=true:=fun j=>beq_iff_eq.symm
 have nb:∀ x y:Nat,Nat.beq x y=true↔x=y:=fun x y=>⟨Nat.eq_of_beq_eq_true,fun e=>by rw[e];exact Nat.beq_refl _⟩
 refine⟨?_,?_,?_,?_,?_⟩
 ·rw[q 2,h2,Bool.and_eq_true,Nat.ble_eq,Nat.ble_eq]
 ·rw[q 3,h3,Bool.or_eq_true,Bool.and_eq_true,Bool.and_eq_true,Nat.ble_eq,Nat.ble_eq,Nat.ble_eq,Nat.ble_eq]
 ·rw[q 1,h1];exact nb _ _
 ·rw[q 4,h4];exact nb _ _
 ·rw[q 5,h5];exact List.contains_iff_mem
theorem kd_facts(b:UInt8):(kd b=2↔dig b)∧(kd b=3↔(97≤b.toNat∧b.toNat≤122)∨(65≤b.toNat∧b.toNat≤90))∧(kd b=1↔b.toNat=32)∧(kd b=4↔b.toNat=34)∧(kd b=5↔b.toNat∈[43,45,42,47,37,94,38,61,60,62,40,41,44,58]):=by
 have h:tabP b.toNat (kdV (kind_v (b.toNat:Int)))=true:=all_range kd_table b.toNat (byte_lt b)
 unfold kd
 revert h
 generalize kdV (kind_v (b.toNat:Int))=k
 intro h
 exact tabP_facts h
theorem isD_dig(b:UInt8):isD b=true↔dig b:=by
 unfold isD;rw[beq_iff_eq];exact(kd_facts b).1
theorem parseU:∀ (l:List UInt8) (acc:Nat),(∀ c∈l,dig c)→Lib.parseUintM 18446744073709551615 acc l=if dval acc l≤18446744073709551615 then .ok (dval acc l) else if l=[] then .ok acc else .range:=by
 intro l
 induction l with
 |nil=>
  intro acc _
  show Lib.NumEnd.ok acc=_
  by_cases h:dval acc []≤18446744073709551615
  ·rw[if_pos h];rfl
  ·rw[if_neg h,if_pos rfl]
 |cons c r ih=>
  intro acc hl
  have hc:=hl c (by simp)
  unfold dig at hc
  have hge:=dval_ge r (acc * 10+(c.toNat - 48))
  have e:dval acc (c::r)=dval (acc * 10+(c.toNat - 48)) r:=rfl
  rw[e]
  simp only[Lib.parseUintM,if_pos hc]
  rw[if_neg (show ¬ (c::r)=[] by simp)]
  split
  ·rw[if_neg (by omega)]
  ·split
   ·rw[if_neg (by omega)]
   ·rename_i hM
    rw[ih _ (fun x hx=>hl x (by simp[hx]))]
    by_cases hA:dval (acc * 10+(c.toNat - 48)) r≤18446744073709551615
    ·rw[if_pos hA,if_pos hA]
    ·rw[if_neg hA,if_neg hA]
     by_cases hr:r=[]
     ·subst hr
      have:dval (acc * 10+(c.toNat - 48)) []=acc * 10+(c.toNat - 48):=rfl
      omega
     ·rw[if_neg hr]
/-- A number that fits. -/
def numM(l:List UInt8):Option Nat:=if dval 0 l≤9223372036854775807 then some (dval 0 l) else none
theorem parseI{l:List UInt8}(hl:∀ c∈l,dig c)(hne:l≠[]):Lib.parseIntB 64 l=match numM l with|some v=>.ok (v:Int)|none=>.range:=by
 match l,hne with
 |c::r,_=>
  have hc:=hl c (by simp)
  unfold dig at hc
  unfold Lib.parseIntB
  have h1:¬ (c.toNat=43∨c.toNat=45):=by omega
  have h2:¬ c.toNat=45:=by omega
  have hh:(if c.toNat=43∨c.toNat=45 then r else c::r)=c::r:=if_neg h1
  simp only[hh]
  simp only[h2,if_false,not_false_eq_true,true_and,false_and]
  unfold Lib.parseUintB
  rw[if_neg (by simp),show(2 ^ 64 - 1:Nat)=18446744073709551615 from rfl,parseU _ _ hl]
  unfold numM
  by_cases e:dval 0 (c::r)≤9223372036854775807
  ·rw[if_pos e,if_pos (by omega)]
   simp only
   rw[if_neg (by show ¬ 9223372036854775808≤_;omega)]
  ·rw[if_neg e]
   by_cases e2:dval 0 (c::r)≤18446744073709551615
   ·rw[if_pos e2]
    simp only
    rw[if_pos (by show 9223372036854775808≤_;omega)]
   ·rw[if_neg e2,if_neg (by simp)]
/-- How long a sign is. -/
def signN(l:List UInt8):Nat:=if l.take 2=[60,62]∨l.take 2=[60,61]∨l.take 2=[62,61] then 2 else 1
theorem take2{l:List UInt8}{a b:UInt8}(h:l.take 2=[a,b]):1 < l.length:=by
 have:=congrArg List.length h
 rw[List.length_take] at this;simp at this;omega
theorem signs_signN(s:ByteArray):signs_v s= .int .i64 (signN s.data.toList:Int):=by
 unfold signs_v signN
 simp only[bqS]
 have e:(cutS s 0 2).data.toList=s.data.toList.take 2:=by unfold cutS;rfl
 rw[e]
 by_cases h1:s.data.toList.take 2=[60,62]
 ·have:=take2 h1
  have c:decide ((s.data.toList.length:Int)>1)=true:=by simp only[decide_eq_true_eq];omega
  rw[c,h1];rfl
 ·by_cases h2:s.data.toList.take 2=[60,61]
  ·have:=take2 h2
   have c:decide ((s.data.toList.length:Int)>1)=true:=by simp only[decide_eq_true_eq];omega
   rw[c,h2];rfl
  ·by_cases h3:s.data.toList.take 2=[62,61]
   ·have:=take2 h3
    have c:decide ((s.data.toList.length:Int)>1)=true:=by simp only[decide_eq_true_eq];omega
    rw[c,h3];rfl
   ·have b1:(s.data.toList.take 2==[60,62])=false:=by simpa using h1
    have b2:(s.data.toList.take 2==[60,61])=false:=by simpa using h2
    have b3:(s.data.toList.take 2==[62,61])=false:=by simpa using h3
    rw[b1,b2,b3,if_neg (by simp[h1,h2,h3])]
    cases decide ((s.data.toList.length:Int)>1) <;>rfl
/-- The token with which bytes begin: its kind, number, text, and how long it is (0: there is none). -/
def oneR(l:List UInt8):Nat×Nat×List UInt8×Nat:=
 match l with
 |[]=>(0,0,[],0)
 |c::r=>
  if kd c=2 then(match numM (l.takeWhile isD) with|some v=>(1,v,[],(l.takeWhile isD).length)|none=>(0,0,[],0))
  else if kd c=4 then(match textM r [] 1 with|some (a,e)=>(2,0,a,e)|none=>(2,0,[],0))
  else if kd c=3 then(3,0,(l.takeWhile isW).map upB,(l.takeWhile isW).length)
  else if kd c=5 then(4,0,l.take (signN l),signN l)
  else(0,0,[],0)
theorem orcD_106:orcD 106=some orc106:=by kernel_rfl
theorem h0_2{m:Int}{h:Heap}(G:Gl m h):h.get 4=some (.row 84 [.iface 309 (.pointer (some ⟨12,0,none⟩))] 0 true)∧h.get 5=some (.row 84 [.iface 309 (.pointer (some ⟨13,0,none⟩))] 0 true):=
 ⟨(G.get 4 (by omega)).trans (by rw[h0_get];rfl),(G.get 5 (by omega)).trans (by rw[h0_get];rfl)⟩
/-- ParseInt at digits. -/
theorem parseInt_digits{m:Int}{h:Heap}(G:Gl m h)(l:List UInt8)(n:Nat)(hl:∀ c∈l,dig c)(hne:l≠[])(hs:l.length≤4000):
  match numM l with
  |some v=>RD (n+1) 106 [.string ⟨⟨l⟩⟩,.int .i64 10,.int .i64 64] h=some (.tuple #[.int .i64 (v:Int),.nilIface],h)
  |none=>∃ v,RD (n+1) 106 [.string ⟨⟨l⟩⟩,.int .i64 10,.int .i64 64] h=some (.tuple #[.int .i64 v,.iface 279 (.pointer (some ⟨h.nx,0,none⟩))],reserve 1 h):=by
 have hp:=parseI hl hne
 have hb:Nat.ble (⟨⟨l⟩⟩:ByteArray).size 281474976710656=true:=by rw[Nat.ble_eq,ba_size];omega
 obtain⟨_,g5⟩:=h0_2 G
 cases hv:numM l with
 |some v=>
  rw[hv] at hp
  show runA En orcD (drawn En) 5000 (n+1) 106 _ h=_
  simp only[runA,orcD_106,orc106,hb,cond_true,hp]
 |none=>
  rw[hv] at hp
  refine⟨Lib.intSat 64 l,?_⟩
  show runA En orcD (drawn En) 5000 (n+1) 106 _ h=_
  simp only[runA,orcD_106,orc106,hb,cond_true,hp,g5]
theorem cut0(s:ByteArray)(m:Nat):cutS s 0 (m:Int)=⟨⟨s.data.toList.take m⟩⟩:=by
 unfold cutS
 simp
theorem takeWhile_take{α:Type}(p:α→Bool):∀ l:List α,l.take (l.takeWhile p).length=l.takeWhile p:=by
 intro l
 induction l with
 |nil=>rfl
 |cons c l ih=>
  rw[List.takeWhile_cons]
  split
  ·rw[List.length_cons,List.take_succ_cons,ih]
  ·rfl
/-- lex.one. -/
theorem one_law{m:Int}(s:ByteArray)(h:Heap)(n:Nat)(hn:5≤n)(G:Gl m h)(h0:0 < s.data.toList.length)(hs:s.data.toList.length≤4000):
  RD n 197 [.string s] h=some (.tuple #[tokV ((oneR s.data.toList).1:Int) ((oneR s.data.toList).2.1:Int) ⟨⟨(oneR s.data.toList).2.2.1⟩⟩ 0,.int .i64 ((oneR s.data.toList).2.2.2:Int)],h):=by
 obtain⟨k,rfl⟩:∃ k,n=k+1:=⟨n - 1,by omega⟩
 obtain⟨j,rfl⟩:∃ j,k=j+1:=⟨k - 1,by omega⟩
 generalize hg:(Heap.fresh h).alloc (.row 199 [.int .i64 0,.int .i64 0,.string ⟨#[]⟩,.int .i64 0] 0 false)=g
 have Gg:Gl m g:=by rw[← hg];exact G.fresh.alloc _
 have hw:∀ o:AObj,h.nx≤(g.put (Heap.fresh h).nx o).wm:=by
  intro o
  rw[Heap.wm_put,← hg,Heap.wm_alloc]
  show h.nx≤min h.nx h.nx
  omega
 have hw2:∀ o:AObj,h.nx≤((reserve 1 g).put (Heap.fresh h).nx o).wm:=by
  intro o
  rw[Heap.wm_put,Heap.wm_reserve,← hg,Heap.wm_alloc]
  show h.nx≤min h.nx h.nx
  omega
 match hl:s.data.toList with
 |[]=>rw[hl] at h0;simp at h0
 |c::r=>
  have hb:bAt s 0=c.toNat:=bAt_drop s 0 c r (by rw[hl];rfl)
  have a0:RD (j+1) 196 [.int .u8 (bAt s 0:Int)] g=some (.int .i64 (kd c:Int),g):=by rw[hb];exact kd_law c g (j+1) (by omega)
  have hs2:s.data.toList.length < 4611686018427387904:=by omega
  have hd:=run218_law s g (j+1) (by omega) hs
  have hw':=run220_law s g (j+1) (by omega) hs
  have htd:(s.data.toList.takeWhile isD).length≤s.data.toList.length:=(List.takeWhile_prefix _).length_le
  have htw:(s.data.toList.takeWhile isW).length≤s.data.toList.length:=(List.takeWhile_prefix _).length_le
  have kb:∀ q:Nat,(((kd c:Int):Int)==(q:Int))=decide (kd c=q):=by
   intro q
   rw[beqI];rfl
  have k2:(((kd c:Int):Int)==2)=decide (kd c=2):=kb 2
  have k3:(((kd c:Int):Int)==3)=decide (kd c=3):=kb 3
  have k4:(((kd c:Int):Int)==4)=decide (kd c=4):=kb 4
  have k5:(((kd c:Int):Int)==5)=decide (kd c=5):=kb 5
  rw[← hl]
  unfold oneR
  rw[hl]
  simp only
  rw[← hl]
  by_cases c2:kd c=2
  ·rw[if_pos c2]
   rw[decide_eq_true c2] at k2
   have hne:s.data.toList.takeWhile isD≠[]:=by
    rw[hl,List.takeWhile_cons,if_pos (by unfold isD;simpa using c2)];simp
   have hdig:∀ x∈s.data.toList.takeWhile isD,dig x:=fun x hx=>(isD_dig x).1 (List.all_eq_true.1 List.all_takeWhile x hx)
   have hp:=parseInt_digits Gg (s.data.toList.takeWhile isD) j hdig hne (by omega)
   have hcut:cutS s 0 ((s.data.toList.takeWhile isD).length:Int)=⟨⟨s.data.toList.takeWhile isD⟩⟩:=by rw[cut0,takeWhile_take]
   rw[← hcut] at hp
   cases hv:numM (s.data.toList.takeWhile isD) with
   |some v=>
    rw[hv] at hp
    subst hg
    exact(on_int h s (kd c) _ (v:Int) (j+1) h0 hs2 (by omega) a0 k2 hd hp).trans ((congrArg some (finish_low (hw _) rfl)).trans (by rfl))
   |none=>
    rw[hv] at hp
    obtain⟨v,hp⟩:=hp
    subst hg
    exact(on_bad h s (kd c) _ v (j+1) h0 hs2 (by omega) a0 k2 hd hp).trans ((congrArg some (finish_low (hw2 _) rfl)).trans (by rfl))
  ·rw[if_neg c2]
   rw[decide_eq_false c2] at k2
   by_cases c4:kd c=4
   ·rw[if_pos c4]
    rw[decide_eq_true c4] at k4
    have ht:=txA_law s g (j+1) (by omega) hs
    have hdr:s.data.toList.drop 1=r:=by rw[hl];rfl
    rw[hdr] at ht
    cases hv:textM r [] 1 with
    |some p=>
     obtain⟨a,e⟩:=p
     rw[hv] at ht
     subst hg
     exact(on_text h s ⟨⟨a⟩⟩ (kd c) (e:Int) (j+1) h0 hs2 a0 k2 k4 ht).trans ((congrArg some (finish_low (hw _) rfl)).trans (by rfl))
    |none=>
     rw[hv] at ht
     subst hg
     exact(on_text h s ⟨#[]⟩ (kd c) 0 (j+1) h0 hs2 a0 k2 k4 ht).trans ((congrArg some (finish_low (hw _) rfl)).trans (by rfl))
   ·rw[if_neg c4]
    rw[decide_eq_false c4] at k4
    by_cases c3:kd c=3
    ·rw[if_pos c3]
     rw[decide_eq_true c3] at k3
     have hcut:cutS s 0 ((s.data.toList.takeWhile isW).length:Int)=⟨⟨s.data.toList.takeWhile isW⟩⟩:=by rw[cut0,takeWhile_take]
     have hu:=upA_law (cutS s 0 ((s.data.toList.takeWhile isW).length:Int)) g (j+1) (by omega) (by rw[hcut];show(s.data.toList.takeWhile isW).length≤4000;omega)
     subst hg
     refine(on_word h s _ (kd c) _ (j+1) h0 hs2 (by omega) a0 k2 k4 k3 hw' hu).trans ?_
     exact(congrArg some (finish_low (hw _) rfl)).trans (by rw[hcut];rfl)
    ·rw[if_neg c3]
     rw[decide_eq_false c3] at k3
     by_cases c5:kd c=5
     ·rw[if_pos c5]
      rw[decide_eq_true c5] at k5
      have hsg:RD (j+1) 222 [.string s] g=some (.int .i64 (signN s.data.toList:Int),g):=by
       rw[← signs_signN];exact signs_law s g (j+1) (by omega)
      have hle:(signN s.data.toList:Int)≤s.data.toList.length:=by
       unfold signN
       split
       ·rename_i h
        rcases h with h|h|h
        ·have:=take2 h;omega
        ·have:=take2 h;omega
        ·have:=take2 h;omega
       ·omega
      subst hg
      exact(on_sign h s (kd c) _ (j+1) h0 hs2 hle a0 k2 k4 k3 k5 hsg).trans ((congrArg some (finish_low (hw _) rfl)).trans (by rw[cut0];rfl))
     ·rw[if_neg c5]
      rw[decide_eq_false c5] at k5
      subst hg
      exact(on_none h s (kd c) (j+1) h0 hs2 a0 k2 k4 k3 k5).trans ((congrArg some (finish_low (hw _) rfl)).trans (by rfl))
end Go.PanE
namespace Go.PanE
open Go.Proofs
noncomputable section
abbrev x11_1:List Value:=[iv 0,iv 0,.string ⟨#[]⟩,iv 0]
abbrev x11_2(s:ByteArray)(at_ B i u:Nat):List (Nat×Value):=[(0,.string s),(1,iv (at_:Int)),(4,pv B 0),(6,iv (i:Int)),(7,.int .u64 (u:Int))]
abbrev x11_3(s:ByteArray)(at_:Nat)(h:Heap):List (Nat×Value):=[(0,.string s),(1,iv (at_:Int)),(4,pv h.nx 0),(5,iv 0),(9,iv (at_:Int)),(6,iv (at_:Int)),(7,.int .u64 0)]
abbrev x11_4(h:Heap):Heap:=pt (al h.fresh 199 x11_1) h.nx 199 x11_1
def rdig_v(c:Int):Value:=
 bif decide ((c:Int)≥48) then(bif decide ((c:Int)≤57) then(.bool true) else
  (.bool false)) else
 (.bool false)
theorem rdig_law(c:Int)(h:Heap)(n:Nat)(hn:1≤n):RD n 145 [.int .u8 c] h=some (rdig_v c,h):=by
 obtain⟨m,rfl⟩:∃ m,n=m+1:=⟨n - 1,by omega⟩
 cases b0:decide ((c:Int)≥48)
 ·rw[rdig_v,b0]
  exact fpV (kZ h) [yF b0,.z 0]
 ·cases b1:decide ((c:Int)≤57)
  ·rw[rdig_v,b0,b1]
   exact fpV (kZ h) [yT b0,yF b1,.z 0]
  ·rw[rdig_v,b0,b1]
   exact fpV (kZ h) [yT b0,yT b1,.z 0]
def rlet_v(c:Int):Value:=
 bif decide ((c:Int)≥97) then(bif decide ((c:Int)≤122) then(.bool true) else
  bif decide ((c:Int)≥65) then(bif decide ((c:Int)≤90) then(.bool true) else
  (.bool false)) else
  (.bool false)) else
 bif decide ((c:Int)≥65) then(bif decide ((c:Int)≤90) then(.bool true) else
  (.bool false)) else
 (.bool false)
theorem rlet_law(c:Int)(h:Heap)(n:Nat)(hn:1≤n):RD n 147 [.int .u8 c] h=some (rlet_v c,h):=by
 obtain⟨m,rfl⟩:∃ m,n=m+1:=⟨n - 1,by omega⟩
 cases b0:decide ((c:Int)≥97)
 ·cases b1:decide ((c:Int)≥65)
  ·rw[rlet_v,b0,b1]
   exact fpV (kZ h) [yF b0,yF b1,.z 0]
  ·cases b2:decide ((c:Int)≤90)
   ·rw[rlet_v,b0,b1,b2]
    exact fpV (kZ h) [yF b0,yT b1,yF b2,.z 0]
   ·rw[rlet_v,b0,b1,b2]
    exact fpV (kZ h) [yF b0,yT b1,yT b2,.z 0]
 ·cases b1:decide ((c:Int)≤122)
  ·cases b2:decide ((c:Int)≥65)
   ·rw[rlet_v,b0,b1,b2]
    exact fpV (kZ h) [yT b0,yF b1,yF b2,.z 0]
   ·cases b3:decide ((c:Int)≤90)
    ·rw[rlet_v,b0,b1,b2,b3]
     exact fpV (kZ h) [yT b0,yF b1,yT b2,yF b3,.z 0]
    ·rw[rlet_v,b0,b1,b2,b3]
     exact fpV (kZ h) [yT b0,yF b1,yT b2,yT b3,.z 0]
  ·rw[rlet_v,b0,b1]
   exact fpV (kZ h) [yT b0,yT b1,.z 0]
theorem wrap_u64{x:Int}(h1:0≤x)(h2:x≤18446744073709551615):IntKind.u64.wrap x=x:=by
 simp[IntKind.wrap,IntKind.bits,IntKind.signed] at *
 omega
theorem add_u64{x:Int}(h1:0≤x)(h2:x≤18446744073709551615):some (Value.int .u64 (IntKind.u64.wrap x))=some (.int .u64 x):=by rw[wrap_u64 h1 h2]
theorem quo_u64{x y:Int}(h1:0≤x)(h2:0 < y)(h3:x≤18446744073709551615):intBin .quo .u64 x y=some (.int .u64 (x / y)):=by
 unfold intBin
 simp only
 rw[if_neg (by omega),Int.tdiv_eq_ediv_of_nonneg h1,wrap_u64 (Int.ediv_nonneg h1 (by omega)) (by
  have:=Int.ediv_le_self y h1
  omega)]
theorem nu_on(h:Heap)(s:ByteArray)(B i at_ u c:Nat)(n:Nat)(_h1:i < s.data.toList.length)(_h2:s.data.toList.length < 4611686018427387904)(_h3:u≤9223372036854775807)(_h4:48≤c∧c≤57)(_h5:bAt s (i:Int)=c)(_h6:(u:Int) * 10+((bAt s (i:Int):Int) - 48)≤9223372036854775807)(a0:decide (((i:Int):Int) < s.data.toList.length)=true)(a1:Pu n 145 [.int .u8 (bAt s (i:Int):Int)] (.bool true) h)(a2:intBin .quo .u64 (9223372036854775807 - ((bAt s (i:Int):Int) - 48)) 10=some (.int .u64 ((9223372036854775807 - ((bAt s (i:Int):Int) - 48)) / 10)))(a3:decide (((u:Int):Int)>((9223372036854775807 - ((bAt s (i:Int):Int) - 48)) / 10))=false)(a4:Value.int .u64 (((u:Int) * 10)+((bAt s (i:Int):Int) - 48))=Value.int .u64 ((u:Int) * 10+((bAt s (i:Int):Int) - 48))):Bd n 44 [1,1,1,0,0,0] Tryz.f146 (x11_2 s at_ B i u) h .normal [(0,.string s),(1,iv (at_:Int)),(4,pv B 0),(6,iv ((i:Int)+1)),(7,.int .u64 ((u:Int) * 10+((bAt s (i:Int):Int) - 48)))] h:=
 bdF (kZ h) [yT a0,yI 9 s (i:Int),yP a1,yI 9 s (i:Int),yU ((bAt s (i:Int):Int) - 48),.x [.v (.int .u64 ((bAt s (i:Int):Int) - 48))] fun _=>[⟨some (Value.int .u64 (IntKind.u64.wrap ((bAt s (i:Int):Int) - 48)))=some (.int .u64 ((bAt s (i:Int):Int) - 48)),add_u64 (by omega) (by omega)⟩],.x [.v (.int .u64 (9223372036854775807 - ((bAt s (i:Int):Int) - 48)))] fun _=>[⟨some (Value.int .u64 (IntKind.u64.wrap (9223372036854775807 - ((bAt s (i:Int):Int) - 48))))=some (.int .u64 (9223372036854775807 - ((bAt s (i:Int):Int) - 48))),add_u64 (by omega) (by omega)⟩],yE a2,yF a3,.x [.v (.int .u64 ((u:Int) * 10))] fun _=>[⟨some (Value.int .u64 (IntKind.u64.wrap ((u:Int) * 10)))=some (.int .u64 ((u:Int) * 10)),add_u64 (by omega) (by omega)⟩],.x [.v (.int .u64 (((u:Int) * 10)+((bAt s (i:Int):Int) - 48)))] fun _=>[⟨some (Value.int .u64 (IntKind.u64.wrap (((u:Int) * 10)+((bAt s (i:Int):Int) - 48))))=some (.int .u64 (((u:Int) * 10)+((bAt s (i:Int):Int) - 48))),add_u64 (by omega) (by omega)⟩],yW ((i:Int)+1),.x [] fun _=>[⟨Value.string s=Value.string s,rfl⟩],.x [] fun _=>[⟨iv (at_:Int)=iv (at_:Int),rfl⟩],.x [] fun _=>[⟨pv B 0=pv B 0,rfl⟩],.x [] fun _=>[⟨iv ((i:Int)+1)=iv ((i:Int)+1),rfl⟩],yH a4]
theorem nu_big(h:Heap)(s:ByteArray)(B i at_ u c:Nat)(n:Nat)(_h1:i < s.data.toList.length)(_h2:s.data.toList.length < 4611686018427387904)(_h3:u≤9223372036854775807)(_h4:48≤c∧c≤57)(_h5:bAt s (i:Int)=c)(hB:h.get B=some (.row 199 x11_1 0 false))(a0:decide (((i:Int):Int) < s.data.toList.length)=true)(a1:Pu n 145 [.int .u8 (bAt s (i:Int):Int)] (.bool true) h)(a2:intBin .quo .u64 (9223372036854775807 - ((bAt s (i:Int):Int) - 48)) 10=some (.int .u64 ((9223372036854775807 - ((bAt s (i:Int):Int) - 48)) / 10)))(a3:decide (((u:Int):Int)>((9223372036854775807 - ((bAt s (i:Int):Int) - 48)) / 10))=true):Bd n 44 [1,1,1,0,0,0] Tryz.f146 (x11_2 s at_ B i u) h .ret [(4,pv B 0),(5,iv 0)] (pt h B 199 x11_1):=
 bdF (kI (ko hB)) [yT a0,yI 9 s (i:Int),yP a1,yI 9 s (i:Int),yU ((bAt s (i:Int):Int) - 48),.x [.v (.int .u64 ((bAt s (i:Int):Int) - 48))] fun _=>[⟨some (Value.int .u64 (IntKind.u64.wrap ((bAt s (i:Int):Int) - 48)))=some (.int .u64 ((bAt s (i:Int):Int) - 48)),add_u64 (by omega) (by omega)⟩],.x [.v (.int .u64 (9223372036854775807 - ((bAt s (i:Int):Int) - 48)))] fun _=>[⟨some (Value.int .u64 (IntKind.u64.wrap (9223372036854775807 - ((bAt s (i:Int):Int) - 48))))=some (.int .u64 (9223372036854775807 - ((bAt s (i:Int):Int) - 48))),add_u64 (by omega) (by omega)⟩],yE a2,yT a3,.w 0 199 0 (.agg #[iv 0,iv 0,.string ⟨#[]⟩,iv 0]),.z 0]
theorem nu_end(h:Heap)(s:ByteArray)(B i at_ u:Nat)(n:Nat)(a0:decide (((i:Int):Int) < s.data.toList.length)=false):Bd n 44 [1,1,1,0,0,0] Tryz.f146 (x11_2 s at_ B i u) h (.exit 0) [(1,iv (at_:Int)),(4,pv B 0),(6,iv (i:Int)),(7,.int .u64 (u:Int))] h:=
 bdF (kZ h) [yF a0,.z 0]
theorem nu_off(h:Heap)(s:ByteArray)(B i at_ u:Nat)(n:Nat)(_h1:i < s.data.toList.length)(a0:decide (((i:Int):Int) < s.data.toList.length)=true)(a1:Pu n 145 [.int .u8 (bAt s (i:Int):Int)] (.bool false) h):Bd n 44 [1,1,1,0,0,0] Tryz.f146 (x11_2 s at_ B i u) h (.exit 0) [(1,iv (at_:Int)),(4,pv B 0),(6,iv (i:Int)),(7,.int .u64 (u:Int))] h:=
 bdF (kZ h) [yT a0,yI 9 s (i:Int),yP a1,.z 0]
theorem nu_bad(h:Heap)(s:ByteArray)(at_:Nat)(n:Nat)(a0:Lf n 44 [1,1,1,0,0,0] Tryz.f146 (x11_3 s at_ h) (al h.fresh 199 x11_1) .ret [(4,pv h.nx 0),(5,iv 0)] (x11_4 h)):Fn n 146 [.string s,iv (at_:Int)] h (.tuple #[.agg #[iv 0,iv 0,.string ⟨#[]⟩,iv 0],iv 0]) (x11_4 h):=
 fnT (kZ h) [aS 199 x11_1,yS a0 (kI (ko (show(x11_4 h).get h.nx=_ from(gP (show h.nx < h.nx+1 by omega))))),.r 0 199 4,.z 1]
theorem nu_good(h:Heap)(s:ByteArray)(at_ i u:Nat)(n:Nat)(_h1:at_≤i)(_h2:i < 4611686018427387904)(_h3:u≤9223372036854775807)(a0:Lf n 44 [1,1,1,0,0,0] Tryz.f146 (x11_3 s at_ h) (al h.fresh 199 x11_1) (.exit 0) [(1,iv (at_:Int)),(4,pv h.nx 0),(6,iv (i:Int)),(7,.int .u64 (u:Int))] (al h.fresh 199 x11_1)):Fn n 146 [.string s,iv (at_:Int)] h (.tuple #[.agg #[iv 1,iv (u:Int),.string ⟨#[]⟩,iv (at_:Int)],iv ((i:Int) - (at_:Int))]) (pt (al h.fresh 199 x11_1) h.nx 199 [iv 1,iv (u:Int),.string ⟨#[]⟩,iv (at_:Int)]):=
 fnT (kZ h) [aS 199 x11_1,yS a0 (kI (ko (show(al h.fresh 199 x11_1).get h.nx=_ from gN))),yW (u:Int),yW ((i:Int) - (at_:Int)),.w 0 199 0 (.agg #[iv 1,iv (u:Int),.string ⟨#[]⟩,iv (at_:Int)]),.r 0 199 4,.z 1]
end
end Go.PanE
namespace Go.PanE
open Go.Proofs
noncomputable section
abbrev x12_1:List Value:=[iv 0,iv 0,.string ⟨#[]⟩,iv 0]
abbrev x12_2:List Value:=[.string ⟨#[43]⟩,.string ⟨#[45]⟩,.string ⟨#[42]⟩,.string ⟨#[47]⟩,.string ⟨#[37]⟩,.string ⟨#[94]⟩,.string ⟨#[38]⟩,.string ⟨#[61]⟩,.string ⟨#[60]⟩,.string ⟨#[62]⟩,.string ⟨#[60,62]⟩,.string ⟨#[60,61]⟩,.string ⟨#[62,61]⟩,.string ⟨#[40]⟩,.string ⟨#[41]⟩,.string ⟨#[44]⟩,.string ⟨#[58]⟩]
abbrev x12_3(s:ByteArray)(at_:Nat)(h:Heap):List (Nat×Value):=[(0,.string s),(1,iv (at_:Int)),(4,pv h.nx 0),(5,iv 0),(11,.string s),(12,iv (at_:Int)),(13,.int .u8 (bAt s (at_:Int):Int)),(6,.int .u8 (bAt s (at_:Int):Int)),(15,.int .u8 (bAt s (at_:Int):Int)),(16,.bool false),(14,.bool false),(23,.int .u8 (bAt s (at_:Int):Int)),(24,.bool false),(22,.bool false),(55,.int .u8 (bAt s (at_:Int):Int)),(56,.bool false),(54,.bool false),(8,iv 2)]
abbrev x12_4(s:ByteArray)(at_ B i:Nat):List (Nat×Value):=[(0,.string s),(1,iv (at_:Int)),(4,pv B 0),(7,iv (i:Int))]
abbrev x12_5(s:ByteArray)(at_ B k b:Nat):List (Nat×Value):=[(0,.string s),(1,iv (at_:Int)),(4,pv B 0),(8,iv (k:Int)),(62,iv (k:Int)),(63,.bool true),(66,iv (at_:Int)),(67,iv (k:Int)),(68,iv ((at_:Int)+(k:Int))),(69,.string s),(70,iv s.data.toList.length),(71,.bool false),(72,sv b 0 17 17),(9,sv b 0 17 17),(10,iv 0)]
abbrev x12_6(s:ByteArray)(at_ B k b i:Nat):List (Nat×Value):=[(0,.string s),(1,iv (at_:Int)),(4,pv B 0),(8,iv (k:Int)),(9,sv b 0 17 17),(10,iv (i:Int))]
abbrev x12_7(s:ByteArray)(at_ B k:Nat):List (Nat×Value):=[(0,.string s),(1,iv (at_:Int)),(4,pv B 0),(8,iv (k:Int))]
abbrev x12_8(s:ByteArray)(at_:Nat):List Value:=[.string s,iv (at_:Int)]
abbrev x12_9(k0 n0:Int)(t:ByteArray)(a0_ e:Int):Value:=.tuple #[.agg #[iv k0,iv n0,.string t,iv a0_],iv e]
theorem nw_let(h:Heap)(s:ByteArray)(i at_ B:Nat)(n:Nat)(_h1:i < s.data.toList.length)(_h2:s.data.toList.length < 4611686018427387904)(a0:decide (((i:Int):Int) < s.data.toList.length)=true)(a1:Pu n 147 [.int .u8 (bAt s (i:Int):Int)] (.bool true) h):Bd n 98 [1,1,0,0,1,1,1,0,1,0,0,0] Tryz.f109 (x12_4 s at_ B i) h .normal [(0,.string s),(1,iv (at_:Int)),(4,pv B 0),(7,iv ((i:Int)+1))] h:=
 bdF (kZ h) [yT a0,yI 9 s (i:Int),yP a1,yW ((i:Int)+1),.z 0]
theorem nw_dig(h:Heap)(s:ByteArray)(i at_ B:Nat)(n:Nat)(_h1:i < s.data.toList.length)(_h2:s.data.toList.length < 4611686018427387904)(a0:decide (((i:Int):Int) < s.data.toList.length)=true)(a1:Pu n 147 [.int .u8 (bAt s (i:Int):Int)] (.bool false) h)(a2:Pu n 145 [.int .u8 (bAt s (i:Int):Int)] (.bool true) h):Bd n 98 [1,1,0,0,1,1,1,0,1,0,0,0] Tryz.f109 (x12_4 s at_ B i) h .normal [(0,.string s),(1,iv (at_:Int)),(4,pv B 0),(7,iv ((i:Int)+1))] h:=
 bdF (kZ h) [yT a0,yI 9 s (i:Int),yP a1,yI 9 s (i:Int),yP a2,yW ((i:Int)+1),.z 0]
theorem nw_off(h:Heap)(s:ByteArray)(i at_ B:Nat)(n:Nat)(_h1:i < s.data.toList.length)(_h2:s.data.toList.length < 4611686018427387904)(a0:decide (((i:Int):Int) < s.data.toList.length)=true)(a1:Pu n 147 [.int .u8 (bAt s (i:Int):Int)] (.bool false) h)(a2:Pu n 145 [.int .u8 (bAt s (i:Int):Int)] (.bool false) h):Bd n 98 [1,1,0,0,1,1,1,0,1,0,0,0] Tryz.f109 (x12_4 s at_ B i) h (.exit 1) (x12_4 s at_ B i) h:=
 bdF (kZ h) [yT a0,yI 9 s (i:Int),yP a1,yI 9 s (i:Int),yP a2,.z 0]
theorem nw_end(h:Heap)(s:ByteArray)(i at_ B:Nat)(n:Nat)(a0:decide (((i:Int):Int) < s.data.toList.length)=false):Bd n 98 [1,1,0,0,1,1,1,0,1,0,0,0] Tryz.f109 (x12_4 s at_ B i) h (.exit 1) (x12_4 s at_ B i) h:=
 bdF (kZ h) [yF a0,.z 0]
theorem nsigns(h:Heap)(n:Nat):Fn n 150 [] h (sv h.nx 0 17 17) (al h.fresh 9 x12_2):=
 fnV (kZ h) [aS 9 x12_2,.z 0]
theorem si_on(h:Heap)(s t:ByteArray)(B b i at_ k:Nat)(n:Nat)(_h1:i < 17)(_h2:at_+k≤s.data.toList.length)(_h3:s.data.toList.length < 4611686018427387904)(a0:decide (((i:Int):Int) < 17)=true)(a1:LD h 9 b (0+i * 1) (.string t))(a2:bqS t (cutS s (at_:Int) ((at_:Int)+(k:Int)))=false)(a3:LD h 9 b (0+i * 1) (.string t)):Bd n 98 [1,1,1,0,1,0,0,1,0,0,1,1,1,0,0] Tryz.f109 (x12_6 s at_ B k b i) h .normal [(0,.string s),(1,iv (at_:Int)),(4,pv B 0),(8,iv (k:Int)),(9,sv b 0 17 17),(10,iv ((i:Int)+1))] h:=
 bdF (kZ h) [yT a0,iA 32 9 1 b 17 i,yE a1,yW ((at_:Int)+(k:Int)),cB 9 s (at_:Int) ((at_:Int)+(k:Int)),yF a2,yN h.nx,.q (yE a3),.q (cB 9 s (at_:Int) ((at_:Int)+(k:Int))),yW ((i:Int)+1),.z 0]
theorem si_hit(h:Heap)(s t:ByteArray)(B b i at_ k:Nat)(n:Nat)(_h1:i < 17)(_h2:at_+k≤s.data.toList.length)(_h3:s.data.toList.length < 4611686018427387904)(hB:h.get B=some (.row 199 x12_1 0 false))(a0:decide (((i:Int):Int) < 17)=true)(a1:LD h 9 b (0+i * 1) (.string t))(a2:bqS t (cutS s (at_:Int) ((at_:Int)+(k:Int)))=true)(a3:LD h 9 b (0+i * 1) (.string t))(a4:LD h 9 b (0+i * 1) (.string t)):Bd n 98 [1,1,1,0,1,0,0,1,0,0,1,1,1,0,0] Tryz.f109 (x12_6 s at_ B k b i) h .ret [(4,pv B 0),(5,iv (k:Int))] (pt h B 199 [iv 4,iv 0,.string t,iv (at_:Int)]):=
 bdF (kI (ko hB)) [yT a0,iA 32 9 1 b 17 i,yE a1,yW ((at_:Int)+(k:Int)),cB 9 s (at_:Int) ((at_:Int)+(k:Int)),yT a2,yN h.nx,.q (yE a3),.q (cB 9 s (at_:Int) ((at_:Int)+(k:Int))),iA 32 9 1 b 17 i,yE a4,.w 0 199 0 (.agg #[iv 4,iv 0,.string t,iv (at_:Int)]),.z 0]
theorem si_end(h:Heap)(s:ByteArray)(B b i at_ k:Nat)(n:Nat)(a0:decide (((i:Int):Int) < 17)=false):Bd n 98 [1,1,1,0,1,0,0,1,0,0,1,1,1,0,0] Tryz.f109 (x12_6 s at_ B k b i) h (.exit 5) [(0,.string s),(1,iv (at_:Int)),(4,pv B 0),(8,iv (k:Int))] h:=
 bdF (kZ h) [yF a0,.z 0]
theorem so_skip(h:Heap)(s:ByteArray)(B at_ k:Nat)(n:Nat)(_h1:1≤k∧k≤2)(_h2:at_ < 4611686018427387904)(a0:decide (((k:Int):Int)≥1)=true)(a1:decide (((at_:Int)+(k:Int):Int)>s.data.toList.length)=true):Bd n 98 [1,1,1,0,1,0,0] Tryz.f109 (x12_7 s at_ B k) h .normal [(0,.string s),(1,iv (at_:Int)),(4,pv B 0),(8,iv ((k:Int) - 1))] h:=
 bdF (kZ h) [yT a0,yW ((at_:Int)+(k:Int)),yT a1,yW ((k:Int) - 1),.z 0]
theorem so_none(h h2:Heap)(s:ByteArray)(B b at_ k:Nat)(n:Nat)(_h1:1≤k∧k≤2)(_h2:at_ < 4611686018427387904)(a0:decide (((k:Int):Int)≥1)=true)(a1:decide (((at_:Int)+(k:Int):Int)>s.data.toList.length)=false)(a2:RD n 150 [] h=some (sv b 0 17 17,h2))(a3:Lf n 98 [1,1,1,0,1,0,0,1,0,0,1,1,1,0,0] Tryz.f109 (x12_5 s at_ B k b) h2 (.exit 5) (x12_7 s at_ B k) h2):Bd n 98 [1,1,1,0,1,0,0] Tryz.f109 (x12_7 s at_ B k) h .normal [(0,.string s),(1,iv (at_:Int)),(4,pv B 0),(8,iv ((k:Int) - 1))] h2:=
 bdF (kZ h) [yT a0,yW ((at_:Int)+(k:Int)),yF a1,yC a2 (kZ h2),yS a3 (kZ h2),yW ((k:Int) - 1),.z 0]
theorem so_hit(h h2 h3:Heap)(s:ByteArray)(B b at_ k:Nat)(n:Nat)(_h1:1≤k∧k≤2)(_h2:at_ < 4611686018427387904)(a0:decide (((k:Int):Int)≥1)=true)(a1:decide (((at_:Int)+(k:Int):Int)>s.data.toList.length)=false)(a2:RD n 150 [] h=some (sv b 0 17 17,h2))(a3:Lf n 98 [1,1,1,0,1,0,0,1,0,0,1,1,1,0,0] Tryz.f109 (x12_5 s at_ B k b) h2 .ret [(4,pv B 0),(5,iv (k:Int))] h3):Bd n 98 [1,1,1,0,1,0,0] Tryz.f109 (x12_7 s at_ B k) h .ret [(4,pv B 0),(5,iv (k:Int))] h3:=
 bdF (kZ h) [yT a0,yW ((at_:Int)+(k:Int)),yF a1,yC a2 (kZ h2),yS a3 (kZ h3),.z 0]
theorem so_end(h:Heap)(s:ByteArray)(B at_:Nat)(n:Nat):Bd n 98 [1,1,1,0,1,0,0] Tryz.f109 [(0,.string s),(1,iv (at_:Int)),(4,pv B 0),(8,iv 0)] h (.exit 3) [(4,pv B 0)] h:=
 bdF (kZ h) [bF,.z 0]
theorem nx_dig(h:Heap)(s t:ByteArray)(at_:Nat)(k0 n0 a0_ e:Int)(n:Nat)(_h1:at_ < s.data.toList.length)(_h2:s.data.toList.length < 4611686018427387904)(a0:Pu n 145 [.int .u8 (bAt s (at_:Int):Int)] (.bool true) (al h.fresh 199 x12_1))(a1:Pu n 146 (x12_8 s at_) (x12_9 k0 n0 t a0_ e) (al h.fresh 199 x12_1)):Fn n 109 (x12_8 s at_) h (x12_9 k0 n0 t a0_ e) (pt (al h.fresh 199 x12_1) h.nx 199 [iv k0,iv n0,.string t,iv a0_]):=
 fnT (kZ h) [aS 199 x12_1,yI 9 s (at_:Int),yP a0,yP a1,.w 0 199 0 (.agg #[iv k0,iv n0,.string t,iv a0_]),.r 0 199 4,.z 1]
theorem nx_word(h:Heap)(s t:ByteArray)(at_ m:Nat)(n:Nat)(_h1:at_ < s.data.toList.length)(_h2:s.data.toList.length < 4611686018427387904)(_h3:at_≤m∧m≤s.data.toList.length)(a0:Pu n 145 [.int .u8 (bAt s (at_:Int):Int)] (.bool false) (al h.fresh 199 x12_1))(a1:Pu n 147 [.int .u8 (bAt s (at_:Int):Int)] (.bool true) (al h.fresh 199 x12_1))(a2:Lf n 98 [1,1,0,0,1,1,1,0,1,0,0,0] Tryz.f109 [(0,.string s),(1,iv (at_:Int)),(4,pv h.nx 0),(5,iv 0),(11,.string s),(12,iv (at_:Int)),(13,.int .u8 (bAt s (at_:Int):Int)),(6,.int .u8 (bAt s (at_:Int):Int)),(15,.int .u8 (bAt s (at_:Int):Int)),(16,.bool false),(14,.bool false),(23,.int .u8 (bAt s (at_:Int):Int)),(24,.bool true),(22,.bool true),(25,iv (at_:Int)),(7,iv (at_:Int))] (al h.fresh 199 x12_1) (.exit 1) [(0,.string s),(1,iv (at_:Int)),(4,pv h.nx 0),(7,iv (m:Int))] (al h.fresh 199 x12_1))(a3:Pu n 148 [.string (cutS s (at_:Int) (m:Int))] (.string t) (al h.fresh 199 x12_1)):Fn n 109 (x12_8 s at_) h (.tuple #[.agg #[iv 3,iv 0,.string t,iv (at_:Int)],iv ((m:Int) - (at_:Int))]) (pt (al h.fresh 199 x12_1) h.nx 199 [iv 3,iv 0,.string t,iv (at_:Int)]):=
 fnT (kZ h) [aS 199 x12_1,yI 9 s (at_:Int),yP a0,yP a1,yS a2 (kI (ko (show(al h.fresh 199 x12_1).get h.nx=_ from gN))),cB 9 s (at_:Int) (m:Int),yP a3,yW ((m:Int) - (at_:Int)),.w 0 199 0 (.agg #[iv 3,iv 0,.string t,iv (at_:Int)]),.r 0 199 4,.z 1]
theorem nx_text(h:Heap)(s t:ByteArray)(at_:Nat)(k0 n0 a0_ e:Int)(n:Nat)(_h1:at_ < s.data.toList.length)(_h2:s.data.toList.length < 4611686018427387904)(a0:Pu n 145 [.int .u8 (bAt s (at_:Int):Int)] (.bool false) (al h.fresh 199 x12_1))(a1:Pu n 147 [.int .u8 (bAt s (at_:Int):Int)] (.bool false) (al h.fresh 199 x12_1))(a2:(((bAt s (at_:Int):Int):Int)==34)=true)(a3:Pu n 149 (x12_8 s at_) (x12_9 k0 n0 t a0_ e) (al h.fresh 199 x12_1)):Fn n 109 (x12_8 s at_) h (x12_9 k0 n0 t a0_ e) (pt (al h.fresh 199 x12_1) h.nx 199 [iv k0,iv n0,.string t,iv a0_]):=
 fnT (kZ h) [aS 199 x12_1,yI 9 s (at_:Int),yP a0,yP a1,yT a2,yP a3,.w 0 199 0 (.agg #[iv k0,iv n0,.string t,iv a0_]),.r 0 199 4,.z 1]
theorem nx_hit(h h3:Heap)(s t:ByteArray)(at_ k:Nat)(n:Nat)(_h1:at_ < s.data.toList.length)(_h2:s.data.toList.length < 4611686018427387904)(hB:h3.get h.nx=some (.row 199 [iv 4,iv 0,.string t,iv (at_:Int)] 0 false))(a0:Pu n 145 [.int .u8 (bAt s (at_:Int):Int)] (.bool false) (al h.fresh 199 x12_1))(a1:Pu n 147 [.int .u8 (bAt s (at_:Int):Int)] (.bool false) (al h.fresh 199 x12_1))(a2:(((bAt s (at_:Int):Int):Int)==34)=false)(a3:Lf n 98 [1,1,1,0,1,0,0] Tryz.f109 (x12_3 s at_ h) (al h.fresh 199 x12_1) .ret [(4,pv h.nx 0),(5,iv (k:Int))] h3):Fn n 109 (x12_8 s at_) h (.tuple #[.agg #[iv 4,iv 0,.string t,iv (at_:Int)],iv (k:Int)]) h3:=
 fnT (kZ h) [aS 199 x12_1,yI 9 s (at_:Int),yP a0,yP a1,yF a2,yS a3 (kI (ko hB)),.r 0 199 4,.z 1]
theorem nx_none(h h3:Heap)(s:ByteArray)(at_:Nat)(n:Nat)(_h1:at_ < s.data.toList.length)(_h2:s.data.toList.length < 4611686018427387904)(hB:h3.get h.nx=some (.row 199 x12_1 0 false))(_hl:h.nx < h3.nx)(a0:Pu n 145 [.int .u8 (bAt s (at_:Int):Int)] (.bool false) (al h.fresh 199 x12_1))(a1:Pu n 147 [.int .u8 (bAt s (at_:Int):Int)] (.bool false) (al h.fresh 199 x12_1))(a2:(((bAt s (at_:Int):Int):Int)==34)=false)(a3:Lf n 98 [1,1,1,0,1,0,0] Tryz.f109 (x12_3 s at_ h) (al h.fresh 199 x12_1) (.exit 3) [(4,pv h.nx 0)] h3):Fn n 109 (x12_8 s at_) h (.tuple #[.agg #[iv 0,iv 0,.string ⟨#[]⟩,iv 0],iv 0]) (pt h3 h.nx 199 x12_1):=
 fnT (kZ h) [aS 199 x12_1,yI 9 s (at_:Int),yP a0,yP a1,yF a2,yS a3 (kI (ko hB)),.w 0 199 0 (.agg #[iv 0,iv 0,.string ⟨#[]⟩,iv 0]),.r 0 199 4,.z 1]
end
end Go.PanE
namespace Go.PanE
open Go.Proofs
def vB(v:Value):Bool:=match v with| .bool b=>b|_=>false
def tabR(n:Nat):Bool:=
 (match rdig_v (n:Int) with| .bool b=>b==(Nat.ble 48 n && Nat.ble n 57)|_=>false) &&
 (match rlet_v (n:Int) with| .bool b=>b==((Nat.ble 97 n && Nat.ble n 122) || (Nat.ble 65 n && Nat.ble n 90))|_=>false)
theorem tabR_all:((List.range 256).all tabR)=true:=by kernel_rfl
theorem rdig_byte(b:UInt8)(h:Heap)(n:Nat)(hn:1≤n):RD n 145 [.int .u8 (b.toNat:Int)] h=some (.bool (isD b),h):=by
 have e:=all_range tabR_all b.toNat (byte_lt b)
 unfold tabR at e
 rw[Bool.and_eq_true] at e
 have l:=rdig_law (b.toNat:Int) h n hn
 have e1:=e.1
 generalize rdig_v (b.toNat:Int)=v at e1 l
 split at e1
 ·rename_i q
  have:=eq_of_beq e1
  subst this
  have hd:isD b=(Nat.ble 48 b.toNat && Nat.ble b.toNat 57):=by
   rw[Bool.eq_iff_iff,isD_dig,Bool.and_eq_true,Nat.ble_eq,Nat.ble_eq];exact Iff.rfl
  rw[hd];exact l
 ·simp at e1
/-- Is a byte a letter? -/
def isL(b:UInt8):Bool:=kd b==3
theorem rlet_byte(b:UInt8)(h:Heap)(n:Nat)(hn:1≤n):RD n 147 [.int .u8 (b.toNat:Int)] h=some (.bool (isL b),h):=by
 have e:=all_range tabR_all b.toNat (byte_lt b)
 unfold tabR at e
 rw[Bool.and_eq_true] at e
 have l:=rlet_law (b.toNat:Int) h n hn
 have e1:=e.2
 generalize rlet_v (b.toNat:Int)=v at e1 l
 split at e1
 ·rename_i q
  have:=eq_of_beq e1
  subst this
  have hd:isL b=((Nat.ble 97 b.toNat && Nat.ble b.toNat 122) || (Nat.ble 65 b.toNat && Nat.ble b.toNat 90)):=by
   rw[Bool.eq_iff_iff,Bool.or_eq_true,Bool.and_eq_true,Bool.and_eq_true,Nat.ble_eq,Nat.ble_eq,Nat.ble_eq,Nat.ble_eq]
   unfold isL
   rw[beq_iff_eq]
   exact(kd_facts b).2.1
  rw[hd];exact l
 ·simp at e1
def zTok:List Value:=[.int .i64 0,.int .i64 0,.string ⟨#[]⟩,.int .i64 0]
section
variable (s:ByteArray) (n:Nat) (hn:1≤n) (hs:s.data.toList.length≤4000)
include hn hs
theorem num_loop(B at_:Nat)(H:Heap)(hB:H.get B=some (.row 199 [.int .i64 0,.int .i64 0,.string ⟨#[]⟩,.int .i64 0] 0 false)):∀ (r:List UInt8) (i u:Nat),s.data.toList.drop i=r→u≤9223372036854775807→
  ∃ q,q≤r.length+1∧(if dval u (r.takeWhile isD)≤9223372036854775807 then
   Loops En (RD n) 44 5000 (sub [1,1,1,0,0,0] (bodyOf Tryz.f146)) [(0,.string s),(1,.int .i64 (at_:Int)),(4,.pointer (some ⟨B,0,none⟩)),(6,.int .i64 ((i:Nat):Int)),(7,.int .u64 (u:Int))] H (.exit 0)
    [(1,.int .i64 (at_:Int)),(4,.pointer (some ⟨B,0,none⟩)),(6,.int .i64 ((i+(r.takeWhile isD).length:Nat):Int)),(7,.int .u64 ((dval u (r.takeWhile isD):Nat):Int))] H q
  else Loops En (RD n) 44 5000 (sub [1,1,1,0,0,0] (bodyOf Tryz.f146)) [(0,.string s),(1,.int .i64 (at_:Int)),(4,.pointer (some ⟨B,0,none⟩)),(6,.int .i64 ((i:Nat):Int)),(7,.int .u64 (u:Int))] H .ret
    [(4,.pointer (some ⟨B,0,none⟩)),(5,.int .i64 0)] (H.put B (.row 199 [.int .i64 0,.int .i64 0,.string ⟨#[]⟩,.int .i64 0] 0 false)) q):=by
 intro r
 induction r with
 |nil=>
  intro i u hi hu
  have:=drop_end hi
  refine⟨1,by simp,?_⟩
  rw[if_pos (by exact hu)]
  exact .out (nu_end H s B i at_ u n (by simp only[decide_eq_false_iff_not];omega))
 |cons c r ih=>
  intro i u hi hu
  have hlt:=drop_lt hi
  have hb:=bAt_drop s i c r hi
  have a0:decide ((((i:Nat):Int):Int) < s.data.toList.length)=true:=by simp only[decide_eq_true_eq];omega
  have a1:=rdig_byte c H n hn
  rw[← hb] at a1
  cases hd:isD c with
  |false=>
   rw[hd] at a1
   have ht:(c::r).takeWhile isD=[]:=by rw[List.takeWhile_cons,if_neg (by simp[hd])]
   refine⟨1,by simp,?_⟩
   rw[ht,if_pos (by exact hu)]
   exact .out (nu_off H s B i at_ u n hlt a0 a1)
  |true=>
   rw[hd] at a1
   have ht:(c::r).takeWhile isD=c::r.takeWhile isD:=by rw[List.takeWhile_cons,if_pos hd]
   have hc:=(isD_dig c).1 hd
   unfold dig at hc
   have hq:intBin .quo .u64 (9223372036854775807 - ((bAt s ((i:Nat):Int):Int) - 48)) 10=some (.int .u64 ((9223372036854775807 - ((bAt s ((i:Nat):Int):Int) - 48)) / 10)):=quo_u64 (by rw[hb];omega) (by omega) (by rw[hb];omega)
   have hdv:dval u (c::r.takeWhile isD)=dval (u * 10+(c.toNat - 48)) (r.takeWhile isD):=rfl
   have hge:=dval_ge (r.takeWhile isD) (u * 10+(c.toNat - 48))
   rw[ht,hdv]
   by_cases hbig:u * 10+(c.toNat - 48)≤9223372036854775807
   ·obtain⟨q,hq1,hl⟩:=ih (i+1) (u * 10+(c.toNat - 48)) (drop_next hi) hbig
    have b1:=nu_on H s B i at_ u c.toNat n hlt (by omega) hu hc hb (by rw[hb];omega) a0 a1 hq (by simp only[decide_eq_false_iff_not];rw[hb];omega) rfl
    have e7:((u:Int) * 10+((bAt s ((i:Nat):Int):Int) - 48))=((u * 10+(c.toNat - 48):Nat):Int):=by rw[hb];omega
    rw[e7] at b1
    refine⟨q+1,by simp only[List.length_cons];omega,?_⟩
    split
    ·rename_i h1
     rw[if_pos h1] at hl
     rw[List.length_cons,show i+((r.takeWhile isD).length+1)=i+1+(r.takeWhile isD).length by omega]
     exact .on b1 hl
    ·rename_i h1
     rw[if_neg h1] at hl
     exact .on b1 hl
   ·refine⟨1,by simp,?_⟩
    rw[if_neg (by omega)]
    exact .ret (nu_big H s B i at_ u c.toNat n hlt (by omega) hu hc hb hB a0 a1 hq (by simp only[decide_eq_true_eq];rw[hb];omega))
theorem nword_loop(H:Heap)(at_ B:Nat):∀ (r:List UInt8) (i:Nat),s.data.toList.drop i=r→Loops En (RD n) 98 5000 (sub [1,1,0,0,1,1,1,0,1,0,0,0] (bodyOf Tryz.f109)) [(0,.string s),(1,.int .i64 ((at_:Nat):Int)),(4,.pointer (some ⟨B,0,none⟩)),(7,.int .i64 ((i:Nat):Int))] H (.exit 1) [(0,.string s),(1,.int .i64 ((at_:Nat):Int)),(4,.pointer (some ⟨B,0,none⟩)),(7,.int .i64 ((i+(r.takeWhile isW).length:Nat):Int))] H ((r.takeWhile isW).length+1):=by
 intro r
 induction r with
 |nil=>
  intro i hi
  have:=drop_end hi
  exact .out (nw_end H s i at_ B n (by simp only[decide_eq_false_iff_not];omega))
 |cons c r ih=>
  intro i hi
  have hlt:=drop_lt hi
  have hb:=bAt_drop s i c r hi
  have a0:decide ((((i:Nat):Int):Int) < s.data.toList.length)=true:=by simp only[decide_eq_true_eq];omega
  have a1:=rlet_byte c H n hn
  have a2:=rdig_byte c H n hn
  rw[← hb] at a1 a2
  have hW:isW c=(isL c || isD c):=rfl
  have hr:=ih (i+1) (drop_next hi)
  cases h1:isL c with
  |true=>
   rw[h1] at a1
   rw[List.takeWhile_cons,if_pos (by rw[hW,h1];rfl),List.length_cons,show i+((r.takeWhile isW).length+1)=i+1+(r.takeWhile isW).length by omega]
   exact .on (nw_let H s i at_ B n hlt (by omega) a0 a1) hr
  |false=>
   rw[h1] at a1
   cases h2:isD c with
   |true=>
    rw[h2] at a2
    rw[List.takeWhile_cons,if_pos (by rw[hW,h1,h2];rfl),List.length_cons,show i+((r.takeWhile isW).length+1)=i+1+(r.takeWhile isW).length by omega]
    exact .on (nw_dig H s i at_ B n hlt (by omega) a0 a1 a2) hr
   |false=>
    rw[h2] at a2
    rw[List.takeWhile_cons,if_neg (by rw[hW,h1,h2];simp)]
    exact .out (nw_off H s i at_ B n hlt (by omega) a0 a1 a2)
end
/-- The reference's number. -/
theorem num_law(s:ByteArray)(at_:Nat)(h:Heap)(n:Nat)(hn:2≤n)(hs:s.data.toList.length≤4000)(hat:at_≤s.data.toList.length):
  RD n 146 [.string s,.int .i64 (at_:Int)] h=some ((match numM ((s.data.toList.drop at_).takeWhile isD) with
   |some v=>.tuple #[tokV 1 (v:Int) ⟨#[]⟩ (at_:Int),.int .i64 (((s.data.toList.drop at_).takeWhile isD).length:Int)]
   |none=>.tuple #[noTok,.int .i64 0]),h):=by
 obtain⟨m,rfl⟩:∃ m,n=m+1:=⟨n - 1,by omega⟩
 obtain⟨q,hq,hl⟩:=num_loop s m (by omega) hs (Heap.fresh h).nx at_ ((Heap.fresh h).alloc (.row 199 [.int .i64 0,.int .i64 0,.string ⟨#[]⟩,.int .i64 0] 0 false)) (Heap.get_new _ _) (s.data.toList.drop at_) at_ 0 rfl (by omega)
 have hql:q≤5000:=by rw[List.length_drop] at hq;omega
 have htw:((s.data.toList.drop at_).takeWhile isD).length≤s.data.toList.length - at_:=by
  rw[← List.length_drop];exact(List.takeWhile_prefix _).length_le
 unfold numM
 split at hl
 ·rename_i h1
  rw[if_pos h1]
  refine(nu_good h s at_ _ _ m (by omega) (by omega) h1 (hl.fact' hql ⟨by kernel_rfl,by kernel_rfl,by kernel_rfl,by kernel_rfl,by kernel_rfl,trivial⟩)).trans ?_
  rw[finish_low (by rw[Heap.wm_put,Heap.wm_alloc];show h.nx≤min h.nx h.nx;omega) rfl]
  have:((at_+((s.data.toList.drop at_).takeWhile isD).length:Nat):Int) - (at_:Int)=(((s.data.toList.drop at_).takeWhile isD).length:Int):=by omega
  rw[this];rfl
 ·rename_i h1
  rw[if_neg h1]
  refine(nu_bad h s at_ m (hl.fact' hql ⟨by kernel_rfl,by kernel_rfl,by kernel_rfl,by kernel_rfl,by kernel_rfl,trivial⟩)).trans ?_
  rw[finish_low (by rw[Heap.wm_put,Heap.wm_alloc];show h.nx≤min h.nx h.nx;omega) rfl];rfl
/-- The signs of the reference. -/
def sgnL:List ByteArray:=[⟨#[43]⟩,⟨#[45]⟩,⟨#[42]⟩,⟨#[47]⟩,⟨#[37]⟩,⟨#[94]⟩,⟨#[38]⟩,⟨#[61]⟩,⟨#[60]⟩,⟨#[62]⟩,⟨#[60,62]⟩,⟨#[60,61]⟩,⟨#[62,61]⟩,⟨#[40]⟩,⟨#[41]⟩,⟨#[44]⟩,⟨#[58]⟩]
section
variable (s:ByteArray) (n at_ k B b:Nat) (H:Heap) (hk:at_+k≤s.data.toList.length) (hs:s.data.toList.length≤4000)
 (hB:H.get B=some (.row 199 [.int .i64 0,.int .i64 0,.string ⟨#[]⟩,.int .i64 0] 0 false)) (hb:H.get b=some (.row 9 (sgnL.map Value.string) 0 false))
include hk hs hB hb
theorem sign_loop:∀ (r:List ByteArray) (i:Nat),sgnL.drop i=r→∃ q,q≤r.length+1∧
  match r.find? (fun t=>t.data.toList==(s.data.toList.drop at_).take k) with
  |none=>Loops En (RD n) 98 5000 (sub [1,1,1,0,1,0,0,1,0,0,1,1,1,0,0] (bodyOf Tryz.f109)) [(0,.string s),(1,.int .i64 (at_:Int)),(4,.pointer (some ⟨B,0,none⟩)),(8,.int .i64 (k:Int)),(9,.slice (some ⟨b,0,none⟩) 17 17),(10,.int .i64 ((i:Nat):Int))] H (.exit 5)
    [(0,.string s),(1,.int .i64 (at_:Int)),(4,.pointer (some ⟨B,0,none⟩)),(8,.int .i64 (k:Int))] H q
  |some t=>Loops En (RD n) 98 5000 (sub [1,1,1,0,1,0,0,1,0,0,1,1,1,0,0] (bodyOf Tryz.f109)) [(0,.string s),(1,.int .i64 (at_:Int)),(4,.pointer (some ⟨B,0,none⟩)),(8,.int .i64 (k:Int)),(9,.slice (some ⟨b,0,none⟩) 17 17),(10,.int .i64 ((i:Nat):Int))] H .ret
    [(4,.pointer (some ⟨B,0,none⟩)),(5,.int .i64 (k:Int))] (H.put B (.row 199 [.int .i64 4,.int .i64 0,.string t,.int .i64 (at_:Int)] 0 false)) q:=by
 intro r
 induction r with
 |nil=>
  intro i hi
  have:17≤i:=List.drop_eq_nil_iff.1 hi
  exact⟨1,by simp,.out (si_end H s B b i at_ k n (by simp only[decide_eq_false_iff_not];omega))⟩
 |cons t r ih=>
  intro i hi
  have hlt:i < 17:=by
   rcases Nat.lt_or_ge i 17 with h|h
   ·exact h
   ·rw[List.drop_eq_nil_of_le (by exact h)] at hi;simp at hi
  have a0:decide ((((i:Nat):Int):Int) < 17)=true:=by simp only[decide_eq_true_eq];omega
  have a1:loadV En H 9 ⟨b,0+i * 1,none⟩=some (.string t):=by
   refine ld_cell hb (by kernel_rfl) ?_
   rw[Nat.zero_add,Nat.mul_one,← List.map_drop,hi];rfl
  have hcut:(cutS s (at_:Int) ((at_:Int)+(k:Int))).data.toList=(s.data.toList.drop at_).take k:=by
   unfold cutS
   show(s.data.toList.drop (at_:Int).toNat).take (((at_:Int)+(k:Int)).toNat - (at_:Int).toNat)=_
   rw[Int.toNat_natCast,show((at_:Int)+(k:Int)).toNat - at_=k by omega]
  cases ht:t.data.toList==(s.data.toList.drop at_).take k with
  |true=>
   rw[List.find?_cons_of_pos (by exact ht)]
   exact⟨1,by simp,.ret (si_hit H s t B b i at_ k n hlt hk (by omega) hB a0 a1 (by unfold bqS;rw[hcut];exact ht) a1 a1)⟩
  |false=>
   rw[List.find?_cons_of_neg (by rw[ht];simp)]
   obtain⟨q,hq,hl⟩:=ih (i+1) (by rw[← List.drop_drop,hi];rfl)
   have b1:=si_on H s t B b i at_ k n hlt hk (by omega) a0 a1 (by unfold bqS;rw[hcut];exact ht) a1
   refine⟨q+1,by simp only[List.length_cons];omega,?_⟩
   split at hl
   ·exact .on b1 hl
   ·exact .on b1 hl
end
end Go.PanE
