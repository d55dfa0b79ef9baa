/-
 Part 27 of the proof of Rows.DumpReadsCardSaid: Cut of the first text: the whole.
 Cut of the reference: the whole.
 Formulas as trees: what a parser of tokens makes of them.
 Trees and the parser's own object in the machine's memory.
 No conditions.
-/
import Derived.Test.YtihkphfmnnndfaaGreatDoorT22
import Derived.Test.YtihkphfmnnndfaaGreatDoorT26
namespace Go.PanE
open Go.Proofs
theorem kd1(b:UInt8):(((kd b:Int):Int)==1)=decide (kd b=1):=by
 have:=beqI (kd b) 1
 rw[show((1:Nat):Int)=1 from rfl] at this
 rw[this];simp[Bool.beq_eq_decide_eq]
theorem oneR_len(c:UInt8)(r:List UInt8):(oneR (c::r)).2.2.2≤(c::r).length:=by
 unfold oneR
 simp only
 by_cases c2:kd c=2
 ·rw[if_pos c2]
  cases numM ((c::r).takeWhile isD) with
  |none=>simp
  |some v=>exact(List.takeWhile_prefix _).length_le
 rw[if_neg c2]
 by_cases c4:kd c=4
 ·rw[if_pos c4]
  cases hv:textM r [] 1 with
  |none=>simp
  |some p=>
   obtain⟨a,e⟩:=p
   have:=textM_bound r.length r [] 1 a e (Nat.le_refl _) hv
   simp only[List.length_cons];omega
 rw[if_neg c4]
 by_cases c3:kd c=3
 ·rw[if_pos c3];exact(List.takeWhile_prefix _).length_le
 rw[if_neg c3]
 by_cases c5:kd c=5
 ·rw[if_pos c5]
  show signN (c::r)≤_
  unfold signN
  split
  next h=>
   rcases h with h|h|h <;>(have:=take2 h;omega)
  ·rw[List.length_cons];omega
 ·rw[if_neg c5];simp
theorem lt_dec{a b:Nat}(h:a < b):decide (((a:Nat):Int) < (b:Int))=true:=decide_eq_true (by omega)
theorem lt_dec'{a b:Nat}(h:¬ a < b):decide (((a:Nat):Int) < (b:Int))=false:=decide_eq_false (by omega)
theorem gt_dec{a b:Nat}(h:b < a):decide (((a:Nat):Int)>(b:Int))=true:=decide_eq_true (by omega)
theorem gt_dec'{a b:Nat}(h:¬ b < a):decide (((a:Nat):Int)>(b:Int))=false:=decide_eq_false (by omega)
theorem eq_dec{a b:Nat}(h:a=b):(((a:Nat):Int)==(b:Int))=true:=by subst h;simp
theorem eq_dec'{a b:Nat}(h:a≠b):(((a:Nat):Int)==(b:Int))=false:=by rw[beqI];simpa using h
theorem put_put_get(A:Heap)(p b:Nat)(o o':AObj)(hp:p < A.nx)(hb:b≠p):((A.put p o).put p o').get b=A.get b:=by
 rw[Heap.get_put_other _ _ _ _ (by rw[Heap.nx_put];exact hp) hb,Heap.get_put_other _ _ _ _ hp hb]
section
variable {m:Int} (s:ByteArray) (n:Nat) (hn:5≤n) (hs:s.data.toList.length≤300) (k0:Nat) (hk0:6≤k0)
include hn hs hk0
theorem cuA_loop:∀ (N:Nat) (l:List UInt8) (at_:Nat) (acc:List Tk) (h:Heap) (b:Nat),l.length < N→s.data.toList.drop at_=l→TkAt h k0 b acc→Gl m h→k0≤h.nx→acc.length+l.length≤300→
  ∃ b' H' R,R≤l.length+1∧Up k0 h H'∧match lexM N l at_ acc with
   | .ok ts=>TkAt H' k0 b' ts∧Loops En (RD n) 43 5000 (sub [1,1,1,0,1,0,0] (bodyOf Tryz.f175)) [(0,.string s),(5,tsV b acc),(6,.int .i64 ((at_:Nat):Int))] h (.exit 0) [(5,tsV b' ts)] H' R
   | .bad e=>Loops En (RD n) 43 5000 (sub [1,1,1,0,1,0,0] (bodyOf Tryz.f175)) [(0,.string s),(5,tsV b acc),(6,.int .i64 ((at_:Nat):Int))] h .ret [(2,.slice none 0 0),(3,.int .i64 (e:Int)),(4,.int .i64 12)] H' R:=by
 intro N
 induction N with
 |zero=>intro l at_ acc h b hN;omega
 |succ N ih=>
  intro l at_ acc h b hN hl hA hG hk hb
  have hs2:s.data.toList.length < 4611686018427387904:=by omega
  cases l with
  |nil=>
   have hd:=lt_dec' (a:=at_) (b:=s.data.toList.length) (by have:=drop_end hl;omega)
   refine⟨b,h,1,by omega,Up.refl _ _,?_⟩
   simp only[lexM]
   refine⟨hA,.out ?_⟩
   cases acc with
   |nil=>exact cuA_end0 h s at_ n hd
   |cons x acc=>exact cuA_end1 h s at_ b (x::acc).length n hd
  |cons c r=>
   have hat:=drop_lt hl
   have hd:=lt_dec hat
   have hbt:bAt s ((at_:Nat):Int)=c.toNat:=bAt_drop s at_ c r hl
   have hkd:=kd_law c h n (by omega)
   rw[← hbt] at hkd
   rw[List.length_cons] at hN hb
   by_cases c1:kd c=1
   ·obtain⟨b',H',R,hR,hU,hM⟩:=ih r (at_+1) acc h b (by omega) (drop_next hl) hA hG hk (by omega)
    refine⟨b',H',R+1,by rw[List.length_cons];omega,hU,?_⟩
    have hb:BodyTo En (RD n) 43 5000 (sub [1,1,1,0,1,0,0] (bodyOf Tryz.f175)) [(0,.string s),(5,tsV b acc),(6,.int .i64 ((at_:Nat):Int))] h .normal [(0,.string s),(5,tsV b acc),(6,.int .i64 ((at_+1:Nat):Int))] h:=by
     cases acc with
     |nil=>exact cuA_sp0 h s at_ (kd c) n hat hs2 hd hkd (by rw[kd1];simpa using c1)
     |cons x acc=>exact cuA_sp1 h s at_ (kd c) b (x::acc).length n hat hs2 hd hkd (by rw[kd1];simpa using c1)
    simp only[lexM,if_pos c1]
    split at hM
    next ts e=>exact⟨hM.1,.on hb hM.2⟩
    next e1 e=>exact .on hb hM
   ·have hc1:(((kd c:Int):Int)==1)=false:=by rw[kd1];simpa using c1
    have hcut:(cutS s ((at_:Nat):Int) s.data.toList.length).data.toList=c::r:=by
     show((s.data.toList.drop at_).take (s.data.toList.length - at_))=_
     rw[List.take_of_length_le (by rw[List.length_drop];omega),hl]
    have hone:=one_law (cutS s ((at_:Nat):Int) s.data.toList.length) h n hn hG (by rw[hcut,List.length_cons];omega) (by rw[hcut];rw[← hl,List.length_drop];omega)
    rw[hcut] at hone
    have hlen:=oneR_len c r
    simp only[lexM,if_neg c1]
    by_cases c0:(oneR (c::r)).2.2.2=0
    ·rw[if_pos c0]
     rw[c0] at hone
     refine⟨b,?_,1,by omega,?_,?_⟩
     ·exact(h.alloc (.row 199 [.int .i64 0,.int .i64 0,.string ⟨#[]⟩,.int .i64 0] 0 false)).put h.nx (.row 199 [.int .i64 ((oneR (c::r)).1:Int),.int .i64 ((oneR (c::r)).2.1:Int),.string ⟨⟨(oneR (c::r)).2.2.1⟩⟩,.int .i64 0] 0 false)
     ·exact(Up.alloc _ _ hk).trans (Up.put _ _ hk (by rw[Heap.nx_alloc];omega))
     ·simp only
      cases acc with
      |nil=>exact .ret (cuA_bad0 h s ⟨⟨(oneR (c::r)).2.2.1⟩⟩ at_ (kd c) (oneR (c::r)).1 (oneR (c::r)).2.1 n hat hs2 hd hkd hc1 hone)
      |cons x acc=>exact .ret (cuA_bad1 h s ⟨⟨(oneR (c::r)).2.2.1⟩⟩ at_ (kd c) b (x::acc).length (oneR (c::r)).1 (oneR (c::r)).2.1 n hat hs2 hd hkd hc1 hone)
    ·rw[if_neg c0]
     have hne0:((((oneR (c::r)).2.2.2:Nat):Int)==0)=false:=eq_dec' (b:=0) c0
     have hc2:h.nx < (h.alloc (.row 199 [.int .i64 0,.int .i64 0,.string ⟨#[]⟩,.int .i64 0] 0 false)).nx:=by rw[Heap.nx_alloc];omega
     generalize hg:(((h.alloc (.row 199 [.int .i64 0,.int .i64 0,.string ⟨#[]⟩,.int .i64 0] 0 false)).put h.nx (.row 199 [.int .i64 ((oneR (c::r)).1:Int),.int .i64 ((oneR (c::r)).2.1:Int),.string ⟨⟨(oneR (c::r)).2.2.1⟩⟩,.int .i64 0] 0 false)).put h.nx (.row 199 (tkOf (c::r) at_).cells 0 false))=g
     have hgn:g.nx=h.nx+1:=by rw[← hg];rfl
     have hgu:Up k0 h g:=by
      rw[← hg]
      exact((Up.alloc _ _ hk).trans (Up.put _ _ hk hc2)).trans (Up.put _ _ hk hc2)
     have hgb:acc≠[]→g.get b=h.get b:=by
      intro ha
      have hbl:b < h.nx:=(hA.lt).resolve_left ha
      rw[← hg]
      exact(put_put_get _ _ _ _ _ hc2 (by omega)).trans (Heap.get_old _ _ hbl)
     obtain⟨h2,hap,hA2,hU2⟩:=tk_append hA (tkOf (c::r) at_) g hgu hgn hgb hk (by omega)
     have hb:BodyTo En (RD n) 43 5000 (sub [1,1,1,0,1,0,0] (bodyOf Tryz.f175)) [(0,.string s),(5,tsV b acc),(6,.int .i64 ((at_:Nat):Int))] h .normal [(0,.string s),(5,tsV (h.nx+1+1) (acc++[tkOf (c::r) at_])),(6,.int .i64 ((at_+(oneR (c::r)).2.2.2:Nat):Int))] h2:=by
      subst hg
      rw[Int.natCast_add]
      cases acc with
      |nil=>exact cuA_tok0 h h2 s ⟨⟨(oneR (c::r)).2.2.1⟩⟩ at_ (oneR (c::r)).1 (oneR (c::r)).2.1 (oneR (c::r)).2.2.2 (kd c) n hat hs2 (by rw[List.length_cons] at hlen;omega) hd hkd hc1 hone hne0 hap
      |cons x acc=>
       have:tsV (h.nx+1+1) ((x::acc)++[tkOf (c::r) at_])= .slice (some ⟨h.nx+1+1,0,none⟩) ((x::acc).length+1) ((x::acc).length+1):=by
        show Value.slice _ ((x::acc)++[tkOf (c::r) at_]).length ((x::acc)++[tkOf (c::r) at_]).length=_
        rw[List.length_append,List.length_singleton]
        rfl
       rw[this] at hap ⊢
       exact cuA_tok1 h h2 s ⟨⟨(oneR (c::r)).2.2.1⟩⟩ at_ (oneR (c::r)).1 (oneR (c::r)).2.1 (oneR (c::r)).2.2.2 b (x::acc).length (kd c) n hat hs2 (by rw[List.length_cons] at hlen;omega) hd hkd hc1 hone hne0 hap
     have hdl:((c::r).drop (oneR (c::r)).2.2.2).length=r.length+1 - (oneR (c::r)).2.2.2:=by rw[List.length_drop,List.length_cons]
     rw[List.length_cons] at hlen
     obtain⟨b',H',R,hR,hU,hM⟩:=ih ((c::r).drop (oneR (c::r)).2.2.2) (at_+(oneR (c::r)).2.2.2) (acc++[tkOf (c::r) at_]) h2 (h.nx+1+1) (by omega) (by rw[← List.drop_drop,hl]) hA2 (hG.up hU2 hk0) (Nat.le_trans hk hU2.nx) (by rw[List.length_append,List.length_singleton];omega)
     refine⟨b',H',R+1,by rw[List.length_cons];omega,hU2.trans hU,?_⟩
     split at hM
     next ts e=>exact⟨hM.1,.on hb hM.2⟩
     next e1 e=>exact .on hb hM
end
/-- What Cut makes. -/
def CutTo(s:ByteArray)(h:Heap)(v:Value)(h':Heap):Prop:=
 Up h.nx h h'∧
 if 300 < s.data.toList.length then v= .tuple #[.slice none 0 0,.int .i64 0,.int .i64 2]
 else match lexM (s.data.toList.length+1) s.data.toList 0 [] with
  | .bad e=>v= .tuple #[.slice none 0 0,.int .i64 (e:Int),.int .i64 12]
  | .ok ts=>∃ b,TkAt h' h.nx b ts∧v= .tuple #[tsV b ts,.int .i64 0,.int .i64 0]
theorem TkAt.finish{h g:Heap}{b:Nat}{l:List Tk}{x y:Value}(t:TkAt g h.nx b l):TkAt (PanE.finish h (.tuple #[tsV b l,x,y]) g).2 h.nx b l:=by
 cases l with
 |nil=>exact .inl rfl
 |cons z l=>
  rcases t with t|⟨t1,t2⟩
  ·cases t
  have:lowV h.nx 5 (.tuple #[tsV b (z::l),x,y])=false:=by
   have:Nat.blt b h.nx=false:=by
    cases e:Nat.blt b h.nx with
    |false=>rfl
    |true=>rw[Nat.blt_eq] at e;omega
   simp[lowV,tsV,tsR,this]
  rw[finish_new this]
  exact .inr ⟨t1,t2⟩
theorem Up.fresh(h:Heap):Up h.nx (Heap.fresh h) (Heap.fresh h):=Up.refl _ _
theorem fin{x:Option (Value×Heap)}{h g:Heap}{v:Value}(e:x=some (finish h v g)):x=some (v,(finish h v g).2):=by
 rw[e];congr 1;exact Prod.ext finish_fst rfl
theorem cutA_law{m:Int}(s:ByteArray)(h:Heap)(n:Nat)(hn:6≤n)(G:Gl m h):∃ v h',RD n 175 [.string s] h=some (v,h')∧CutTo s h v h':=by
 obtain⟨n,rfl⟩:∃ k,n=k+1:=⟨n - 1,by omega⟩
 by_cases hl:300 < s.data.toList.length
 ·refine⟨_,_,fin (cuA_long h s n (gt_dec hl)),?_⟩
  exact⟨(Up.fresh h).finish (Nat.le_refl _),by rw[if_pos hl]⟩
 ·have hlt:s.data.toList.length < s.data.toList.length+1:=by omega
  obtain⟨b',H',R,hR,hU,hM⟩:=cuA_loop s n (by omega) (by omega) h.nx (by have:=G.nx;omega) (s.data.toList.length+1) s.data.toList 0 [] (Heap.fresh h) 0 hlt (by simp) (.inl rfl) G.fresh (Nat.le_refl _) (by simp only[List.length_nil];omega)
  have hgt:=gt_dec' (a:=s.data.toList.length) (b:=300) hl
  simp only[CutTo,if_neg hl]
  split at hM
  next ts e=>
   obtain⟨hA,hL⟩:=hM
   rw[e]
   cases ts with
   |nil=>
    refine⟨_,_,fin (cuA_ok0 h H' s n hgt (hL.fact' (by omega) ⟨by kernel_rfl,by kernel_rfl,by kernel_rfl,trivial⟩)),?_,b',.inl rfl,?_⟩
    ·exact hU.finish (Nat.le_refl _)
    ·rfl
   |cons x ts=>
    refine⟨_,_,fin (cuA_ok1 h H' s b' (x::ts).length n hgt (hL.fact' (by omega) ⟨by kernel_rfl,by kernel_rfl,by kernel_rfl,trivial⟩)),?_,b',?_,?_⟩
    ·exact hU.finish (Nat.le_refl _)
    ·exact TkAt.finish hA
    ·rfl
  next e1 e=>
   rw[e]
   refine⟨_,_,fin (cuA_bad h H' s e1 n hgt (hM.fact' (by omega) ⟨by kernel_rfl,by kernel_rfl,by kernel_rfl,trivial⟩)),?_,?_⟩
   ·exact hU.finish (Nat.le_refl _)
   ·rfl
end Go.PanE
namespace Go.PanE
open Go.Proofs
theorem b32(c:UInt8):(((c.toNat:Int):Int)==32)=decide (kd c=1):=by
 have:=beqI c.toNat 32
 rw[show((32:Nat):Int)=32 from rfl] at this
 rw[this]
 have:=(kd_facts c).2.2.1
 by_cases h:c.toNat=32 <;>simp[h,this]
section
variable {m:Int} (s:ByteArray) (n:Nat) (hn:5≤n) (hs:s.data.toList.length≤300) (k0:Nat) (hk0:6≤k0)
include hn hs hk0
theorem cuB_loop:∀ (N:Nat) (l:List UInt8) (at_:Nat) (acc:List Tk) (h:Heap) (b:Nat),l.length < N→s.data.toList.drop at_=l→TkAt h k0 b acc→Gl m h→k0≤h.nx→acc.length+l.length≤300→
  ∃ b' H' R,R≤l.length+1∧Up k0 h H'∧match lexM N l at_ acc with
   | .ok ts=>TkAt H' k0 b' ts∧Loops En (RD n) 39 5000 (sub [1,1,1,0,1,0,0] (bodyOf Tryz.f77)) [(0,.string s),(5,tsV b acc),(6,.int .i64 ((at_:Nat):Int))] h (.exit 0) [(5,tsV b' ts)] H' R
   | .bad e=>Loops En (RD n) 39 5000 (sub [1,1,1,0,1,0,0] (bodyOf Tryz.f77)) [(0,.string s),(5,tsV b acc),(6,.int .i64 ((at_:Nat):Int))] h .ret [(2,.slice none 0 0),(3,.int .i64 (e:Int)),(4,.int .i64 12)] H' R:=by
 intro N
 induction N with
 |zero=>intro l at_ acc h b hN;omega
 |succ N ih=>
  intro l at_ acc h b hN hl hA hG hk hb
  have hs2:s.data.toList.length < 4611686018427387904:=by omega
  cases l with
  |nil=>
   have hd:=lt_dec' (a:=at_) (b:=s.data.toList.length) (by have:=drop_end hl;omega)
   refine⟨b,h,1,by omega,Up.refl _ _,?_⟩
   simp only[lexM]
   refine⟨hA,.out ?_⟩
   cases acc with
   |nil=>exact cuB_end0 h s at_ n hd
   |cons x acc=>exact cuB_end1 h s at_ b (x::acc).length n hd
  |cons c r=>
   have hat:=drop_lt hl
   have hd:=lt_dec hat
   have hbt:bAt s ((at_:Nat):Int)=c.toNat:=bAt_drop s at_ c r hl
   have hkd:=b32 c
   rw[← hbt] at hkd
   rw[List.length_cons] at hN hb
   by_cases c1:kd c=1
   ·obtain⟨b',H',R,hR,hU,hM⟩:=ih r (at_+1) acc h b (by omega) (drop_next hl) hA hG hk (by omega)
    refine⟨b',H',R+1,by rw[List.length_cons];omega,hU,?_⟩
    have hb:BodyTo En (RD n) 39 5000 (sub [1,1,1,0,1,0,0] (bodyOf Tryz.f77)) [(0,.string s),(5,tsV b acc),(6,.int .i64 ((at_:Nat):Int))] h .normal [(0,.string s),(5,tsV b acc),(6,.int .i64 ((at_+1:Nat):Int))] h:=by
     cases acc with
     |nil=>exact cuB_sp0 h s at_ n hat hs2 hd (by rw[hkd];simpa using c1)
     |cons x acc=>exact cuB_sp1 h s at_ b (x::acc).length n hat hs2 hd (by rw[hkd];simpa using c1)
    simp only[lexM,if_pos c1]
    split at hM
    next ts e=>exact⟨hM.1,.on hb hM.2⟩
    next e1 e=>exact .on hb hM
   ·have hc1:(((bAt s ((at_:Nat):Int):Int):Int)==32)=false:=by rw[hkd];simpa using c1
    have hone:=next_law s at_ h n (by omega) (by omega) hat
    rw[hl] at hone
    unfold nextV at hone
    have hlen:=oneR_len c r
    simp only[lexM,if_neg c1]
    by_cases c0:(oneR (c::r)).2.2.2=0
    ·rw[if_pos c0]
     rw[if_pos c0] at hone
     refine⟨b,?_,1,by omega,?_,?_⟩
     ·exact(h.alloc (.row 199 [.int .i64 0,.int .i64 0,.string ⟨#[]⟩,.int .i64 0] 0 false)).put h.nx (.row 199 [.int .i64 0,.int .i64 0,.string ⟨#[]⟩,.int .i64 0] 0 false)
     ·exact(Up.alloc _ _ hk).trans (Up.put _ _ hk (by rw[Heap.nx_alloc];omega))
     ·simp only
      cases acc with
      |nil=>exact .ret (cuB_bad0 h s ⟨#[]⟩ at_ 0 0 0 n hat hs2 hd hc1 hone)
      |cons x acc=>exact .ret (cuB_bad1 h s ⟨#[]⟩ at_ b (x::acc).length 0 0 0 n hat hs2 hd hc1 hone)
    ·rw[if_neg c0]
     rw[if_neg c0] at hone
     have hne0:((((oneR (c::r)).2.2.2:Nat):Int)==0)=false:=eq_dec' (b:=0) c0
     have hc2:h.nx < (h.alloc (.row 199 [.int .i64 0,.int .i64 0,.string ⟨#[]⟩,.int .i64 0] 0 false)).nx:=by rw[Heap.nx_alloc];omega
     generalize hg:((h.alloc (.row 199 [.int .i64 0,.int .i64 0,.string ⟨#[]⟩,.int .i64 0] 0 false)).put h.nx (.row 199 (tkOf (c::r) at_).cells 0 false))=g
     have hgn:g.nx=h.nx+1:=by rw[← hg];rfl
     have hgu:Up k0 h g:=by
      rw[← hg]
      exact(Up.alloc _ _ hk).trans (Up.put _ _ hk hc2)
     have hgb:acc≠[]→g.get b=h.get b:=by
      intro ha
      have hbl:b < h.nx:=(hA.lt).resolve_left ha
      rw[← hg]
      exact(Heap.get_put_other _ _ _ _ hc2 (by omega)).trans (Heap.get_old _ _ hbl)
     obtain⟨h2,hap,hA2,hU2⟩:=tk_append hA (tkOf (c::r) at_) g hgu hgn hgb hk (by omega)
     have hb:BodyTo En (RD n) 39 5000 (sub [1,1,1,0,1,0,0] (bodyOf Tryz.f77)) [(0,.string s),(5,tsV b acc),(6,.int .i64 ((at_:Nat):Int))] h .normal [(0,.string s),(5,tsV (h.nx+1+1) (acc++[tkOf (c::r) at_])),(6,.int .i64 ((at_+(oneR (c::r)).2.2.2:Nat):Int))] h2:=by
      subst hg
      rw[Int.natCast_add]
      cases acc with
      |nil=>exact cuB_tok0 h h2 s ⟨⟨(oneR (c::r)).2.2.1⟩⟩ at_ (oneR (c::r)).1 (oneR (c::r)).2.1 (oneR (c::r)).2.2.2 n hat hs2 (by rw[List.length_cons] at hlen;omega) hd hc1 hone hne0 hap
      |cons x acc=>
       have:tsV (h.nx+1+1) ((x::acc)++[tkOf (c::r) at_])= .slice (some ⟨h.nx+1+1,0,none⟩) ((x::acc).length+1) ((x::acc).length+1):=by
        show Value.slice _ ((x::acc)++[tkOf (c::r) at_]).length ((x::acc)++[tkOf (c::r) at_]).length=_
        rw[List.length_append,List.length_singleton]
        rfl
       rw[this] at hap ⊢
       exact cuB_tok1 h h2 s ⟨⟨(oneR (c::r)).2.2.1⟩⟩ at_ (oneR (c::r)).1 (oneR (c::r)).2.1 (oneR (c::r)).2.2.2 b (x::acc).length n hat hs2 (by rw[List.length_cons] at hlen;omega) hd hc1 hone hne0 hap
     have hdl:((c::r).drop (oneR (c::r)).2.2.2).length=r.length+1 - (oneR (c::r)).2.2.2:=by rw[List.length_drop,List.length_cons]
     rw[List.length_cons] at hlen
     obtain⟨b',H',R,hR,hU,hM⟩:=ih ((c::r).drop (oneR (c::r)).2.2.2) (at_+(oneR (c::r)).2.2.2) (acc++[tkOf (c::r) at_]) h2 (h.nx+1+1) (by omega) (by rw[← List.drop_drop,hl]) hA2 (hG.up hU2 hk0) (Nat.le_trans hk hU2.nx) (by rw[List.length_append,List.length_singleton];omega)
     refine⟨b',H',R+1,by rw[List.length_cons];omega,hU2.trans hU,?_⟩
     split at hM
     next ts e=>exact⟨hM.1,.on hb hM.2⟩
     next e1 e=>exact .on hb hM
end
theorem cutB_law{m:Int}(s:ByteArray)(h:Heap)(n:Nat)(hn:6≤n)(G:Gl m h):∃ v h',RD n 77 [.string s] h=some (v,h')∧CutTo s h v h':=by
 obtain⟨n,rfl⟩:∃ k,n=k+1:=⟨n - 1,by omega⟩
 by_cases hl:300 < s.data.toList.length
 ·refine⟨_,_,fin (cuB_long h s n (gt_dec hl)),?_⟩
  exact⟨(Up.fresh h).finish (Nat.le_refl _),by rw[if_pos hl]⟩
 ·have hlt:s.data.toList.length < s.data.toList.length+1:=by omega
  obtain⟨b',H',R,hR,hU,hM⟩:=cuB_loop s n (by omega) (by omega) h.nx (by have:=G.nx;omega) (s.data.toList.length+1) s.data.toList 0 [] (Heap.fresh h) 0 hlt (by simp) (.inl rfl) G.fresh (Nat.le_refl _) (by simp only[List.length_nil];omega)
  have hgt:=gt_dec' (a:=s.data.toList.length) (b:=300) hl
  simp only[CutTo,if_neg hl]
  split at hM
  next ts e=>
   obtain⟨hA,hL⟩:=hM
   rw[e]
   cases ts with
   |nil=>
    refine⟨_,_,fin (cuB_ok0 h H' s n hgt (hL.fact' (by omega) ⟨by kernel_rfl,by kernel_rfl,by kernel_rfl,trivial⟩)),?_,b',.inl rfl,?_⟩
    ·exact hU.finish (Nat.le_refl _)
    ·rfl
   |cons x ts=>
    refine⟨_,_,fin (cuB_ok1 h H' s b' (x::ts).length n hgt (hL.fact' (by omega) ⟨by kernel_rfl,by kernel_rfl,by kernel_rfl,trivial⟩)),?_,b',?_,?_⟩
    ·exact hU.finish (Nat.le_refl _)
    ·exact TkAt.finish hA
    ·rfl
  next e1 e=>
   rw[e]
   refine⟨_,_,fin (cuB_bad h H' s e1 n hgt (hM.fact' (by omega) ⟨by kernel_rfl,by kernel_rfl,by kernel_rfl,trivial⟩)),?_,?_⟩
   ·exact hU.finish (Nat.le_refl _)
   ·rfl
end Go.PanE
namespace Go.PanE
open Go.Proofs
/-- A node's own cells. -/
structure Hd where
 k:Int
 a:Int
 b:Int
 t:ByteArray
 r0:Int
 c0:Int
 r1:Int
 c1:Int
 nm:ByteArray
inductive Tr where
 |node (x:Hd) (l:List Tr)
abbrev eS:ByteArray:=⟨#[]⟩
def ndL(x:Hd)(r:Option Addr)(n:Nat):List Value:=[.int .i64 x.k,.int .i64 x.a,.int .i64 x.b,.string x.t,.int .i64 x.r0,.int .i64 x.c0,.int .i64 x.r1,.int .i64 x.c1,.string x.nm,.slice r n n]
def ndV(x:Hd)(r:Option Addr)(n:Nat):Value:=.agg #[.int .i64 x.k,.int .i64 x.a,.int .i64 x.b,.string x.t,.int .i64 x.r0,.int .i64 x.c0,.int .i64 x.r1,.int .i64 x.c1,.string x.nm,.slice r n n]
def z72:List Value:=[.int .i64 0,.int .i64 0,.int .i64 0,.string ⟨#[]⟩,.int .i64 0,.int .i64 0,.int .i64 0,.int .i64 0,.string ⟨#[]⟩,.slice none 0 0]
def z72V:Value:=.agg #[.int .i64 0,.int .i64 0,.int .i64 0,.string ⟨#[]⟩,.int .i64 0,.int .i64 0,.int .i64 0,.int .i64 0,.string ⟨#[]⟩,.slice none 0 0]
inductive Res where
 |ok (t:Tr) (k:Nat)
 |err (pos code:Nat)
abbrev PR:=Nat→Res
def hdVal(vk vn:Int)(s:List UInt8):Hd:=⟨1,vk,vn,⟨⟨s⟩⟩,0,0,0,0,eS⟩
def hdRef(k r0 c0 r1 c1:Int):Hd:=⟨k,0,0,eS,r0,c0,r1,c1,eS⟩
def hdOp(k:Int)(s:List UInt8):Hd:=⟨k,0,0,eS,0,0,0,0,⟨⟨s⟩⟩⟩
def twoT(s:List UInt8)(x y:Tr):Tr:=.node (hdOp 5 s) [x,y]
section
variable (ts:List Tk) (E:Nat) (A:List UInt8→Option (Nat×Nat))
def place(k:Nat):Nat:=match ts[k]? with|some x=>x.at_|none=>E
def failR(k:Nat):Res:=.err (place ts E k) 13
def sg(ops:List (List UInt8))(k:Nat):Option (List UInt8):=
 match ts[k]? with
 |some x=>if x.k=4∧x.t∈ops then some x.t else none
 |none=>none
def opens(k:Nat):Bool:=(sg ts [[40]] (k+1)).isSome
def rowF(ops:List (List UInt8))(f:PR):Nat→Tr→Nat→Res
 |0,x,k=>.ok x k
 |i+1,x,k=>
  match sg ts ops k with
  |none=>.ok x k
  |some s=>
   match f (k+1) with
   | .err p c=>.err p c
   | .ok y k'=>rowF ops f i (twoT s x y) k'
def rowP(ops:List (List UInt8))(f:PR):PR:=fun k=>
 match f k with
 | .err p c=>.err p c
 | .ok x k1=>rowF ts ops f 400 x k1
def formP(f:PR):PR:=fun k=>
 match f k with
 | .err p c=>.err p c
 | .ok x k1=>
  match sg ts [[61],[60,62],[60],[60,61],[62],[62,61]] k1 with
  |none=>.ok x k1
  |some s=>
   match f (k1+1) with
   | .err p c=>.err p c
   | .ok y k2=>.ok (twoT s x y) k2
def powP(f g:PR):PR:=fun k=>
 match f k with
 | .err p c=>.err p c
 | .ok x k1=>
  match sg ts [[94]] k1 with
  |none=>.ok x k1
  |some s=>
   match g (k1+1) with
   | .err p c=>.err p c
   | .ok y k2=>.ok (twoT s x y) k2
def unP(f g:PR):PR:=fun k=>
 match sg ts [[45]] k with
 |none=>f k
 |some _=>
  match g (k+1) with
  | .err p c=>.err p c
  | .ok y k2=>.ok (.node (hdOp 4 []) [y]) k2
def argsF(f:PR)(nm:List UInt8):Nat→List Tr→Nat→Res
 |0,_,k=>failR ts E k
 |i+1,acc,k=>
  match f k with
  | .err p c=>.err p c
  | .ok t k1=>
   match sg ts [[44]] k1 with
   |some _=>argsF f nm i (acc++[t]) (k1+1)
   |none=>
    match sg ts [[41]] k1 with
    |some _=>.ok (.node (hdOp 6 nm) (acc++[t])) (k1+1)
    |none=>failR ts E k1
def callP(f:PR)(x:Tk):PR:=fun k=>
 if 8 < x.t.length then failR ts E k
 else match sg ts [[41]] (k+2) with
  |some _=>.ok (.node (hdOp 6 x.t) []) (k+2+1)
  |none=>argsF ts E f x.t 10 [] (k+2)
def cellP(k:Nat):Option (Nat×Nat):=
 match ts[k]? with
 |some x=>if x.k=3∧opens ts k=false then A x.t else none
 |none=>none
def nameP(f:PR)(x:Tk):PR:=fun k=>
 if opens ts k then callP ts E f x k
 else if x.t=[84,82,85,69] then .ok (.node (hdVal 1 1 []) []) (k+1)
 else if x.t=[70,65,76,83,69] then .ok (.node (hdVal 1 0 []) []) (k+1)
 else match A x.t with
  |none=>failR ts E k
  |some (r,c)=>
   match sg ts [[58]] (k+1) with
   |none=>.ok (.node (hdRef 2 r c 0 0) []) (k+1)
   |some _=>
    match cellP ts A (k+1+1) with
    |none=>failR ts E (k+1+1)
    |some (r',c')=>.ok (.node (hdRef 3 ((min r r':Nat):Int) ((min c c':Nat):Int) ((max r r':Nat):Int) ((max c c':Nat):Int)) []) (k+1+1+1)
def partP(f:PR):PR:=fun k=>
 match ts[k]? with
 |none=>failR ts E k
 |some x=>
  if x.k=1 then .ok (.node (hdVal 2 x.n []) []) (k+1)
  else if x.k=2 then(if x.t.length≤200 then .ok (.node (hdVal 3 0 x.t) []) (k+1) else failR ts E k)
  else if x.k=3 then nameP ts E A f x k
  else if x.k=4 then
   (if x.t=[40] then
    match f (k+1) with
    | .err p c=>.err p c
    | .ok t k1=>
     match sg ts [[41]] k1 with
     |some _=>.ok t (k1+1)
     |none=>failR ts E k1
   else failR ts E k)
  else failR ts E k
structure Lv where
 form:PR
 pow:PR
 un:PR
def sumO:List (List UInt8):=[[43],[45],[38]]
def prodO:List (List UInt8):=[[42],[47],[37]]
def lv:Nat→Lv
 |0=>⟨fun _=>.err 0 14,fun _=>.err 0 14,fun _=>.err 0 14⟩
 |d+1=>
  ⟨formP ts (rowP ts sumO (rowP ts prodO (powP ts (unP ts (partP ts E A (lv d).form) (lv d).un) (lv d).pow))),
   powP ts (unP ts (partP ts E A (lv d).form) (lv d).un) (lv d).pow,
   unP ts (partP ts E A (lv d).form) (lv d).un⟩
/-- A parser goes on. -/
def Prog(f:PR):Prop:=∀ k t k',f k= .ok t k'→k < k'∧k'≤ts.length
theorem sg_lt{ops:List (List UInt8)}{k:Nat}{s:List UInt8}(h:sg ts ops k=some s):k < ts.length:=by
 unfold sg at h
 split at h
 next x e=>exact(List.getElem?_eq_some_iff.1 e).1
 next=>cases h
theorem rowF_prog{ops:List (List UInt8)}{f:PR}(hf:Prog ts f):∀ (i:Nat) (x:Tr) (k:Nat) (t:Tr) (k':Nat),k≤ts.length→rowF ts ops f i x k= .ok t k'→k≤k'∧k'≤ts.length:=by
 intro i
 induction i with
 |zero=>intro x k t k' hk h;simp only[rowF,Res.ok.injEq] at h;omega
 |succ i ih=>
  intro x k t k' hk h
  simp only[rowF] at h
  split at h
  ·simp only[Res.ok.injEq] at h;omega
  ·split at h
   ·cases h
   next y k1 e=>
    have:=hf _ _ _ e
    have:=ih _ _ _ _ (by omega) h
    omega
theorem rowP_prog{ops:List (List UInt8)}{f:PR}(hf:Prog ts f):Prog ts (rowP ts ops f):=by
 intro k t k' h
 simp only[rowP] at h
 split at h
 ·cases h
 next x k1 e=>
  have:=hf _ _ _ e
  have:=rowF_prog ts hf _ _ _ _ _ (by omega) h
  omega
theorem formP_prog{f:PR}(hf:Prog ts f):Prog ts (formP ts f):=by
 intro k t k' h
 simp only[formP] at h
 split at h
 ·cases h
 next x k1 e=>
  have:=hf _ _ _ e
  split at h
  ·simp only[Res.ok.injEq] at h;omega
  ·split at h
   ·cases h
   next y k2 e2=>
    have:=hf _ _ _ e2
    simp only[Res.ok.injEq] at h;omega
theorem powP_prog{f g:PR}(hf:Prog ts f)(hg:Prog ts g):Prog ts (powP ts f g):=by
 intro k t k' h
 simp only[powP] at h
 split at h
 ·cases h
 next x k1 e=>
  have:=hf _ _ _ e
  split at h
  ·simp only[Res.ok.injEq] at h;omega
  ·split at h
   ·cases h
   next y k2 e2=>
    have:=hg _ _ _ e2
    simp only[Res.ok.injEq] at h;omega
theorem unP_prog{f g:PR}(hf:Prog ts f)(hg:Prog ts g):Prog ts (unP ts f g):=by
 intro k t k' h
 simp only[unP] at h
 split at h
 ·exact hf _ _ _ h
 ·split at h
  ·cases h
  next y k2 e2=>
   have:=hg _ _ _ e2
   simp only[Res.ok.injEq] at h;omega
theorem argsF_prog{f:PR}(hf:Prog ts f)(nm:List UInt8):∀ (i:Nat) (acc:List Tr) (k:Nat) (t:Tr) (k':Nat),argsF ts E f nm i acc k= .ok t k'→k < k'∧k'≤ts.length:=by
 intro i
 induction i with
 |zero=>intro acc k t k' h;simp only[argsF,failR] at h;cases h
 |succ i ih=>
  intro acc k t k' h
  simp only[argsF] at h
  split at h
  ·cases h
  next y k1 e=>
   have:=hf _ _ _ e
   split at h
   ·have:=ih _ _ _ _ h;omega
   ·split at h
    next s e3=>have:=sg_lt ts e3;simp only[Res.ok.injEq] at h;omega
    ·cases h
theorem nameP_prog{f:PR}(hf:Prog ts f){k:Nat}{x:Tk}(hx:ts[k]? =some x){t:Tr}{k':Nat}(h:nameP ts E A f x k= .ok t k'):k < k'∧k'≤ts.length:=by
 have hk:k < ts.length:=(List.getElem?_eq_some_iff.1 hx).1
 simp only[nameP] at h
 split at h
 ·simp only[callP] at h
  split at h
  ·cases h
  ·split at h
   next s e3=>have:=sg_lt ts e3;simp only[Res.ok.injEq] at h;omega
   ·have:=argsF_prog ts E hf _ _ _ _ _ _ h;omega
 ·split at h
  ·simp only[Res.ok.injEq] at h;omega
  ·split at h
   ·simp only[Res.ok.injEq] at h;omega
   ·split at h
    ·cases h
    ·split at h
     ·simp only[Res.ok.injEq] at h;omega
     ·split at h
      ·cases h
      next r' c' e=>
       have:k+1+1 < ts.length:=by
        unfold cellP at e
        split at e
        next y ey=>exact(List.getElem?_eq_some_iff.1 ey).1
        ·cases e
       simp only[Res.ok.injEq] at h;omega
theorem partP_prog{f:PR}(hf:Prog ts f):Prog ts (partP ts E A f):=by
 intro k t k' h
 simp only[partP] at h
 split at h
 ·cases h
 next x hx=>
  have hk:k < ts.length:=(List.getElem?_eq_some_iff.1 hx).1
  split at h
  ·simp only[Res.ok.injEq] at h;omega
  ·split at h
   ·split at h
    ·simp only[Res.ok.injEq] at h;omega
    ·cases h
   ·split at h
    ·exact nameP_prog ts E A hf hx h
    ·split at h
     ·split at h
      ·split at h
       ·cases h
       next y k1 e=>
        have:=hf _ _ _ e
        split at h
        next s e3=>have:=sg_lt ts e3;simp only[Res.ok.injEq] at h;omega
        ·cases h
      ·cases h
     ·cases h
theorem lv_prog:∀ d,Prog ts (lv ts E A d).form∧Prog ts (lv ts E A d).pow∧Prog ts (lv ts E A d).un:=by
 intro d
 induction d with
 |zero=>exact⟨fun _ _ _ h=>(nomatch h),fun _ _ _ h=>(nomatch h),fun _ _ _ h=>(nomatch h)⟩
 |succ d ih=>
  have hu:=unP_prog ts (partP_prog ts E A ih.1) ih.2.2
  have hp:=powP_prog ts hu ih.2.1
  exact⟨formP_prog ts (rowP_prog ts (rowP_prog ts hp)),hp,hu⟩
end
end Go.PanE
namespace Go.PanE
open Go.Proofs
/-! Kinds of types, and what lies in memories. -/
theorem C2:isCell En 2=true:=by kernel_rfl
theorem C3:isCell En 3=true:=by kernel_rfl
theorem C4:isCell En 4=true:=by kernel_rfl
theorem C5:isCell En 5=true:=by kernel_rfl
theorem C9:isCell En 9=true:=by kernel_rfl
theorem C20:isCell En 20=true:=by kernel_rfl
theorem C32:isCell En 32=true:=by kernel_rfl
theorem C33:isCell En 33=true:=by kernel_rfl
theorem C70:isCell En 70=true:=by kernel_rfl
theorem C84:isCell En 84=true:=by kernel_rfl
theorem C108:isCell En 108=true:=by kernel_rfl
theorem C149:isCell En 149=true:=by kernel_rfl
theorem C155:isCell En 155=true:=by kernel_rfl
theorem C242:isCell En 242=true:=by kernel_rfl
theorem C272:isCell En 272=true:=by kernel_rfl
theorem A27:isAggOf En 27 3=true:=by kernel_rfl
theorem A29:isAggOf En 29 2=true:=by kernel_rfl
theorem A43:isAggOf En 43 4=true:=by kernel_rfl
theorem A45:isAggOf En 45 8=true:=by kernel_rfl
theorem A72:isAggOf En 72 10=true:=by kernel_rfl
theorem A74:isAggOf En 74 14=true:=by kernel_rfl
theorem A78:isAggOf En 78 3=true:=by kernel_rfl
theorem A80:isAggOf En 80 14=true:=by kernel_rfl
theorem A117:isAggOf En 117 2=true:=by kernel_rfl
theorem A152:isAggOf En 152 3=true:=by kernel_rfl
theorem A160:isAggOf En 160 6=true:=by kernel_rfl
theorem A199:isAggOf En 199 4=true:=by kernel_rfl
theorem A245:isAggOf En 245 2=true:=by kernel_rfl
theorem A274:isAggOf En 274 3=true:=by kernel_rfl
theorem A322:isAggOf En 322 5=true:=by kernel_rfl
theorem S2:En.size 2=some 1:=by kernel_rfl
theorem S3:En.size 3=some 1:=by kernel_rfl
theorem S4:En.size 4=some 1:=by kernel_rfl
theorem S5:En.size 5=some 1:=by kernel_rfl
theorem S9:En.size 9=some 1:=by kernel_rfl
theorem S20:En.size 20=some 1:=by kernel_rfl
theorem S27:En.size 27=some 3:=by kernel_rfl
theorem S29:En.size 29=some 2:=by kernel_rfl
theorem S32:En.size 32=some 1:=by kernel_rfl
theorem S33:En.size 33=some 1:=by kernel_rfl
theorem S43:En.size 43=some 4:=by kernel_rfl
theorem S45:En.size 45=some 8:=by kernel_rfl
theorem S70:En.size 70=some 1:=by kernel_rfl
theorem S72:En.size 72=some 10:=by kernel_rfl
theorem S74:En.size 74=some 14:=by kernel_rfl
theorem S78:En.size 78=some 3:=by kernel_rfl
theorem S80:En.size 80=some 14:=by kernel_rfl
theorem S84:En.size 84=some 1:=by kernel_rfl
theorem S108:En.size 108=some 1:=by kernel_rfl
theorem S117:En.size 117=some 2:=by kernel_rfl
theorem S149:En.size 149=some 1:=by kernel_rfl
theorem S152:En.size 152=some 3:=by kernel_rfl
theorem S155:En.size 155=some 1:=by kernel_rfl
theorem S160:En.size 160=some 6:=by kernel_rfl
theorem S199:En.size 199=some 4:=by kernel_rfl
theorem S242:En.size 242=some 1:=by kernel_rfl
theorem S245:En.size 245=some 2:=by kernel_rfl
theorem S272:En.size 272=some 1:=by kernel_rfl
theorem S274:En.size 274=some 3:=by kernel_rfl
theorem S322:En.size 322=some 5:=by kernel_rfl
mutual
def NodeC(h:Heap)(P:Nat→Prop)(x:Hd)(r:Option Addr)(n:Nat):Tr→Prop
 | .node y ts=>x=y∧n=ts.length∧((ts=[]∧r=none)∨∃ b cs es ro,r=some ⟨b,0,none⟩∧P b∧h.get b=some (.row 72 cs es ro)∧ArgsC h P cs ts)
def ArgsC(h:Heap)(P:Nat→Prop)(cs:List Value):List Tr→Prop
 |[]=>cs=[]
 |t::ts=>∃ x r n cs',cs=ndL x r n++cs'∧NodeC h P x r n t∧ArgsC h P cs' ts
end
mutual
theorem NodeC.mono{h g:Heap}{P Q:Nat→Prop}(hg:∀ b o,P b→h.get b=some o→Q b∧g.get b=some o){x:Hd}{r:Option Addr}{n:Nat}:∀ {t:Tr},NodeC h P x r n t→NodeC g Q x r n t
 | .node y ts,H=>by
  unfold NodeC at H ⊢
  obtain⟨h1,h2,h3⟩:=H
  refine⟨h1,h2,?_⟩
  rcases h3 with h3|⟨b,cs,es,ro,e1,e2,e3,e4⟩
  ·exact .inl h3
  ·exact .inr ⟨b,cs,es,ro,e1,(hg b _ e2 e3).1,(hg b _ e2 e3).2,ArgsC.mono hg e4⟩
theorem ArgsC.mono{h g:Heap}{P Q:Nat→Prop}(hg:∀ b o,P b→h.get b=some o→Q b∧g.get b=some o){cs:List Value}:∀ {ts:List Tr},ArgsC h P cs ts→ArgsC g Q cs ts
 |[],H=>by unfold ArgsC at H ⊢;exact H
 |t::ts,H=>by
  unfold ArgsC at H ⊢
  obtain⟨x,r,n,cs',e1,e2,e3⟩:=H
  exact⟨x,r,n,cs',e1,NodeC.mono hg e2,ArgsC.mono hg e3⟩
end
theorem ArgsC.snoc{h:Heap}{P:Nat→Prop}{x:Hd}{r:Option Addr}{n:Nat}{t:Tr}(N:NodeC h P x r n t):∀ {ts:List Tr} {cs:List Value},ArgsC h P cs ts→ArgsC h P (cs++ndL x r n) (ts++[t]):=by
 intro ts
 induction ts with
 |nil=>
  intro cs H
  unfold ArgsC at H
  subst H
  show ArgsC h P (ndL x r n) [t]
  unfold ArgsC
  exact⟨x,r,n,[],by rw[List.append_nil],N,by unfold ArgsC;rfl⟩
 |cons u ts ih=>
  intro cs H
  unfold ArgsC at H
  obtain⟨x',r',n',cs',e1,e2,e3⟩:=H
  show ArgsC h P (cs++ndL x r n) (u::(ts++[t]))
  unfold ArgsC
  exact⟨x',r',n',cs'++ndL x r n,by rw[e1,List.append_assoc],e2,ih e3⟩
theorem ndL_length(x:Hd)(r:Option Addr)(n:Nat):(ndL x r n).length=10:=rfl
theorem ndL_one(x:Hd)(r:Option Addr)(n:Nat):(ndL x r n).all oneCell=true:=rfl
theorem ArgsC.length{h:Heap}{P:Nat→Prop}:∀ {ts:List Tr} {cs:List Value},ArgsC h P cs ts→cs.length=ts.length * 10:=by
 intro ts
 induction ts with
 |nil=>intro cs H;unfold ArgsC at H;subst H;rfl
 |cons u ts ih=>
  intro cs H
  unfold ArgsC at H
  obtain⟨x',r',n',cs',e1,e2,e3⟩:=H
  rw[e1,List.length_append,ndL_length,ih e3,List.length_cons];omega
theorem NodeC.leaf(h:Heap)(P:Nat→Prop)(x:Hd):NodeC h P x none 0 (.node x []):=by
 unfold NodeC;exact⟨rfl,rfl,.inl ⟨rfl,rfl⟩⟩
theorem NodeC.mk{h:Heap}{P:Nat→Prop}{b es:Nat}{cs:List Value}{ro:Bool}{ts:List Tr}(x:Hd)(hP:P b)(hg:h.get b=some (.row 72 cs es ro))(ha:ArgsC h P cs ts):NodeC h P x (some ⟨b,0,none⟩) ts.length (.node x ts):=by
 unfold NodeC;exact⟨rfl,rfl,.inr ⟨b,cs,es,ro,rfl,hP,hg,ha⟩⟩
/-- A tree between two places. -/
abbrev NodeI(h:Heap)(lo hi:Nat):Hd→Option Addr→Nat→Tr→Prop:=NodeC h fun b=>lo≤b∧b < hi
theorem NodeI.mono{h g:Heap}{lo hi lo' hi':Nat}(hl:lo'≤lo)(hh:hi≤hi')(hg:∀ b o,lo≤b→b < hi→h.get b=some o→g.get b=some o){x:Hd}{r:Option Addr}{n:Nat}{t:Tr}(H:NodeI h lo hi x r n t):NodeI g lo' hi' x r n t:=
 NodeC.mono (fun b o hb e=>⟨⟨Nat.le_trans hl hb.1,Nat.lt_of_lt_of_le hb.2 hh⟩,hg b o hb.1 hb.2 e⟩) H
theorem NodeI.mk{h:Heap}{lo hi b es:Nat}{cs:List Value}{ro:Bool}{ts:List Tr}(x:Hd)(hl:lo≤b)(hh:b < hi)(hg:h.get b=some (.row 72 cs es ro))(ha:ArgsC h (fun b=>lo≤b∧b < hi) cs ts):NodeI h lo hi x (some ⟨b,0,none⟩) ts.length (.node x ts):=
 NodeC.mk x ⟨hl,hh⟩ hg ha
/-- The parser's object. -/
structure PSt(m:Int)(h:Heap)(p b:Nat)(ts:List Tk)(E k:Nat):Prop where
 gl:Gl m h
 p6:6≤p
 pp:h.get p=some (.row 274 [tsV b ts,.int .i64 (k:Int),.int .i64 (E:Int)] 0 false)
 tk:ts=[]∨h.get b=some (.row 199 (tkC ts) 4 false)
 kT:k≤ts.length
 tT:ts.length≤300
theorem PSt.lt{m:Int}{h:Heap}{p b:Nat}{ts:List Tk}{E k:Nat}(s:PSt m h p b ts E k):p < h.nx:=Heap.lt_of_get s.pp
theorem PSt.fr{m:Int}{h g:Heap}{p b:Nat}{ts:List Tk}{E k k':Nat}(s:PSt m h p b ts E k)(f:Fr h g p)(hp:g.get p=some (.row 274 [tsV b ts,.int .i64 (k':Int),.int .i64 (E:Int)] 0 false))(hk:k'≤ts.length):PSt m g p b ts E k':=
 ⟨s.gl.fr f s.p6,s.p6,hp,s.tk.imp id fun h1=>(f.get b (Heap.lt_of_get h1) (by
  rintro rfl
  have:=s.pp
  rw[h1] at this
  cases this)).trans h1,hk,s.tT⟩
/-- A memory in which all that lay before lies still. -/
theorem PSt.keep{m:Int}{h g:Heap}{p b:Nat}{ts:List Tk}{E k:Nat}(s:PSt m h p b ts E k)(hn:h.nx≤g.nx)(hg:∀ c,c < h.nx→g.get c=h.get c):PSt m g p b ts E k:=
 s.fr ⟨hn,fun c hc _=>hg c hc⟩ ((hg p s.lt).trans s.pp) s.kT
theorem PSt.wm{m:Int}{h:Heap}{p b w:Nat}{ts:List Tk}{E k:Nat}(s:PSt m h p b ts E k):PSt m {h with wm:=w} p b ts E k:=⟨⟨s.gl.nx,s.gl.get⟩,s.p6,s.pp,s.tk,s.kT,s.tT⟩
theorem PSt.fresh{m:Int}{h:Heap}{p b:Nat}{ts:List Tk}{E k:Nat}(s:PSt m h p b ts E k):PSt m (Heap.fresh h) p b ts E k:=s.wm
/-- What a function of the parser hands back. -/
def ResA(m:Int)(h:Heap)(p b:Nat)(ts:List Tk)(E:Nat)(R:Res)(v:Value)(h':Heap):Prop:=
 Fr h h' p∧h'.wm≤h.wm∧match R with
  | .ok t k'=>∃ x r n,v= .tuple #[ndV x r n,.nilIface]∧NodeI h' h.nx h'.nx x r n t∧PSt m h' p b ts E k'∧h'.wm≤p
  | .err pos c=>∃ q k',v= .tuple #[z72V,.iface 242 (.pointer (some ⟨q,0,none⟩))]∧h.nx≤q∧h'.get q=some (.row 245 [.int .i64 (pos:Int),.int .i64 (c:Int)] 0 false)∧PSt m h' p b ts E k'
/-- A token's cells. -/
theorem tk_drop:∀ {ts:List Tk} {k:Nat} {x:Tk},ts[k]? =some x→∃ r,(tkC ts).drop (k * 4)=x.cells++r:=by
 intro ts
 induction ts with
 |nil=>intro k x h;simp at h
 |cons y ts ih=>
  intro k x h
  cases k with
  |zero=>
   simp only[List.getElem?_cons_zero,Option.some.injEq] at h
   subst h
   exact⟨tkC ts,by simp[tkC]⟩
  |succ k=>
   rw[List.getElem?_cons_succ] at h
   obtain⟨r,hr⟩:=ih h
   refine⟨r,?_⟩
   show(y.cells++tkC ts).drop ((k+1) * 4)=_
   rw[List.drop_append,List.drop_eq_nil_of_le (by show y.cells.length≤_;show 4≤_;omega),List.nil_append]
   have:(k+1) * 4 - y.cells.length=k * 4:=by show(k+1) * 4 - 4=_;omega
   rw[this,hr]
section
variable {h:Heap} {ts:List Tk} {k b es:Nat} {ro:Bool} {x:Tk}
theorem tk_head(o:Nat)(ho:o < 4)(hx:ts[k]? =some x):((tkC ts).drop (k * 4+o)).head? =x.cells[o]? :=by
 obtain⟨r,hr⟩:=tk_drop hx
 rw[← List.drop_drop,hr,List.head?_drop,List.getElem?_append_left (by show o < 4;exact ho)]
theorem tk_f0(hg:h.get b=some (.row 199 (tkC ts) es ro))(hx:ts[k]? =some x):loadV En h 3 ⟨b,0+k * 4,none⟩=some (.int .i64 (x.k:Int)):=
 ld_cell hg (by kernel_rfl) (by rw[Nat.zero_add];exact tk_head 0 (by decide) hx)
theorem tk_f2(hg:h.get b=some (.row 199 (tkC ts) es ro))(hx:ts[k]? =some x):loadV En h 9 ⟨b,0+k * 4+2,none⟩=some (.string ⟨⟨x.t⟩⟩):=
 ld_cell hg (by kernel_rfl) (by rw[Nat.zero_add];exact tk_head 2 (by decide) hx)
theorem tk_f3(hg:h.get b=some (.row 199 (tkC ts) es ro))(hx:ts[k]? =some x):loadV En h 3 ⟨b,0+k * 4+3,none⟩=some (.int .i64 (x.at_:Int)):=
 ld_cell hg (by kernel_rfl) (by rw[Nat.zero_add];exact tk_head 3 (by decide) hx)
theorem tk_all(hg:h.get b=some (.row 199 (tkC ts) es ro))(hx:ts[k]? =some x):loadV En h 199 ⟨b,0+k * 4,none⟩=some (.agg #[.int .i64 (x.k:Int),.int .i64 (x.n:Int),.string ⟨⟨x.t⟩⟩,.int .i64 (x.at_:Int)]):=
 ld_agg 4 (l:=x.cells) hg (by kernel_rfl) (by
  obtain⟨r,hr⟩:=tk_drop hx
  rw[Nat.zero_add,hr,List.take_append_of_le_length (by show 4≤4;exact Nat.le_refl _)]
  rfl) rfl
end
/-- What is known of a token's cells. -/
def tkX(k:Nat)(x:Tk):List (Nat×Value):=[(0+k * 4,iv (x.k:Int)),(0+k * 4+2,.string ⟨⟨x.t⟩⟩),(0+k * 4+3,iv (x.at_:Int))]
def tkY(k:Nat)(x:Tk):List (Nat×List Value):=[(0+k * 4,x.cells)]
section
variable {h:Heap} {ts:List Tk} {k j i b es:Nat} {ro:Bool} {x y z:Tk}
theorem tkX_ok(hx:ts[k]? =some x):∀ e∈tkX k x,((tkC ts).drop e.1).head? =some e.2:=by
 refine all_cons ?_ (all_cons ?_ (all_cons ?_ nil_all))
 ·rw[Nat.zero_add];exact tk_head 0 (by decide) hx
 ·rw[Nat.zero_add];exact tk_head 2 (by decide) hx
 ·rw[Nat.zero_add];exact tk_head 3 (by decide) hx
theorem tkY_ok(hx:ts[k]? =some x):∀ e∈tkY k x,((tkC ts).drop e.1).take e.2.length=e.2:=by
 refine all_cons ?_ nil_all
 obtain⟨r,hr⟩:=tk_drop hx
 rw[Nat.zero_add,hr]
 exact List.take_left' rfl
theorem all_app{α:Type}{P:α→Prop}{l m:List α}(h:∀ e∈l,P e)(g:∀ e∈m,P e):∀ e∈l++m,P e:=fun e he=>(List.mem_append.1 he).elim (h e) (g e)
def kx(e:h.get b=some (.row 199 (tkC ts) es ro))(hx:ts[k]? =some x):KO h b:=⟨199,tkC ts,es,ro,e,tkX k x,tkY k x,tkX_ok hx,tkY_ok hx⟩
def kx2(e:h.get b=some (.row 199 (tkC ts) es ro))(hx:ts[k]? =some x)(hy:ts[j]? =some y):KO h b:=⟨199,tkC ts,es,ro,e,tkX k x++tkX j y,tkY k x++tkY j y,all_app (tkX_ok hx) (tkX_ok hy),all_app (tkY_ok hx) (tkY_ok hy)⟩
def kx3(e:h.get b=some (.row 199 (tkC ts) es ro))(hx:ts[k]? =some x)(hy:ts[j]? =some y)(hz:ts[i]? =some z):KO h b:=⟨199,tkC ts,es,ro,e,tkX k x++(tkX j y++tkX i z),tkY k x++(tkY j y++tkY i z),all_app (tkX_ok hx) (all_app (tkX_ok hy) (tkX_ok hz)),all_app (tkY_ok hx) (all_app (tkY_ok hy) (tkY_ok hz))⟩
end
end Go.PanE
