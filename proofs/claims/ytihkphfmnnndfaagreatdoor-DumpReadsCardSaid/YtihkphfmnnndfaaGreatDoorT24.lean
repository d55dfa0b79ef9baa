/-
 Part 24 of the proof of Rows.DumpReadsCardSaid: lex.kind and lex.run as functions of bytes.
 Upper, in both texts: each byte from a to z by its capital.
 lex.text and the reference's text: what stands between quotes.
 The reference's text.
 lex.one: paths printed by sx.py (m5.py).
 No conditions.
-/
import Derived.Test.YtihkphfmnnndfaaGreatDoorT23
namespace Go.PanE
open Go.Proofs
def kdV(v:Value):Nat:=match v with| .int .i64 (.ofNat n)=>n|_=>99
/-- A byte's kind. -/
def kd(b:UInt8):Nat:=kdV (kind_v (b.toNat:Int))
theorem kind_all:((List.range 256).all fun n=>match kind_v (n:Int) with| .int .i64 (.ofNat k)=>Nat.blt k 6|_=>false)=true:=by kernel_rfl
theorem all_range{p:Nat→Bool}{n:Nat}(h:(List.range n).all p=true)(k:Nat)(hk:k < n):p k=true:=List.all_eq_true.1 h k (List.mem_range.2 hk)
theorem byte_lt(b:UInt8):b.toNat < 256:=b.toNat_lt
theorem kind_kd(b:UInt8):kind_v (b.toNat:Int)= .int .i64 (kd b:Int):=by
 have:=all_range kind_all b.toNat (byte_lt b)
 unfold kd
 split at this
 ·rename_i k h;rw[h];rfl
 ·simp at this
theorem kd_law(b:UInt8)(h:Heap)(n:Nat)(hn:3≤n):RD n 196 [.int .u8 (b.toNat:Int)] h=some (.int .i64 (kd b:Int),h):=by
 rw[← kind_kd];exact kind_law _ h n hn
/-- The byte at a place. -/
theorem bAt_drop(s:ByteArray)(i:Nat)(b:UInt8)(r:List UInt8)(h:s.data.toList.drop i=b::r):bAt s ((i:Nat):Int)=b.toNat:=by
 unfold bAt
 rw[Int.toNat_natCast,h];rfl
theorem drop_lt{s:ByteArray}{i:Nat}{b:UInt8}{r:List UInt8}(h:s.data.toList.drop i=b::r):i < s.data.toList.length:=by
 rcases Nat.lt_or_ge i s.data.toList.length with hl|hl
 ·exact hl
 ·rw[List.drop_eq_nil_of_le hl] at h;simp at h
theorem drop_next{l:List UInt8}{i:Nat}{b:UInt8}{r:List UInt8}(h:l.drop i=b::r):l.drop (i+1)=r:=by
 rw[← List.drop_drop,h];rfl
theorem drop_end{l:List UInt8}{i:Nat}(h:l.drop i=[]):l.length≤i:=List.drop_eq_nil_iff.1 h
def isD(b:UInt8):Bool:=kd b==2
def isW(b:UInt8):Bool:=kd b==3 || kd b==2
theorem one1_kd(b:UInt8):one1_v (kd b:Int)= .bool (isD b):=by
 unfold one1_v isD
 cases h:kd b==2 with
 |true=>
  have:kd b=2:=by simpa using h
  rw[this];rfl
 |false=>
  have:((kd b:Int)==2)=false:=by
   have:¬ kd b=2:=by simpa using h
   simp only[beq_eq_false_iff_ne,ne_eq];omega
  rw[this];rfl
theorem beqI(a k:Nat):((a:Int)==(k:Int))=(a==k):=by
 rw[Bool.eq_iff_iff];simp only[beq_iff_eq];omega
theorem one2_kd(b:UInt8):one2_v (kd b:Int)= .bool (isW b):=by
 unfold one2_v isW
 have e3:((kd b:Int)==3)=(kd b==3):=beqI (kd b) 3
 have e2:((kd b:Int)==2)=(kd b==2):=beqI (kd b) 2
 rw[e3,e2]
 cases kd b==3 <;>cases kd b==2 <;>rfl
section
variable (h:Heap) (s:ByteArray) (n:Nat) (hn:3≤n) (hs:s.data.toList.length < 4611686018427387904)
include hn hs
theorem run218_loop:∀ (r:List UInt8) (i:Nat),s.data.toList.drop i=r→Loops En (RD n) 21 5000 (sub [1,1,0,0,0] (bodyOf Tryz.f217)) [(0,.string s),(1,.func (.func 218) #[] #[]),(5,.int .i64 ((i:Nat):Int))] h (.exit 0) [(5,.int .i64 ((i+(r.takeWhile isD).length:Nat):Int))] h ((r.takeWhile isD).length+1):=by
 intro r
 induction r with
 |nil=>
  intro i hi
  have:=drop_end hi
  exact .out (run218_end h s i n (by simp only[decide_eq_false_iff_not];omega))
 |cons b r ih=>
  intro i hi
  have hlt:=drop_lt hi
  have hb:=bAt_drop s i b r hi
  have hk:RD n 196 [.int .u8 (bAt s ((i:Nat):Int):Int)] h=some (.int .i64 (kd b:Int),h):=by rw[hb];exact kd_law b h n hn
  have h1:=one1_law (kd b:Int) h n (by omega)
  rw[one1_kd] at h1
  cases hd:isD b with
  |true=>
   rw[hd] at h1
   have hr:=ih (i+1) (drop_next hi)
   have:=Loops.on (run218_on h s i (kd b:Int) n hlt hs (by simp only[decide_eq_true_eq];omega) hk h1) hr
   rw[List.takeWhile_cons,if_pos hd,List.length_cons]
   rw[show i+((r.takeWhile isD).length+1)=i+1+(r.takeWhile isD).length by omega]
   exact this
  |false=>
   rw[hd] at h1
   rw[List.takeWhile_cons,if_neg (by simp[hd])]
   exact .out (run218_off h s i (kd b:Int) n hlt hs (by simp only[decide_eq_true_eq];omega) hk h1)
theorem run220_loop:∀ (r:List UInt8) (i:Nat),s.data.toList.drop i=r→Loops En (RD n) 21 5000 (sub [1,1,0,0,0] (bodyOf Tryz.f217)) [(0,.string s),(1,.func (.func 220) #[] #[]),(5,.int .i64 ((i:Nat):Int))] h (.exit 0) [(5,.int .i64 ((i+(r.takeWhile isW).length:Nat):Int))] h ((r.takeWhile isW).length+1):=by
 intro r
 induction r with
 |nil=>
  intro i hi
  have:=drop_end hi
  exact .out (run220_end h s i n (by simp only[decide_eq_false_iff_not];omega))
 |cons b r ih=>
  intro i hi
  have hlt:=drop_lt hi
  have hb:=bAt_drop s i b r hi
  have hk:RD n 196 [.int .u8 (bAt s ((i:Nat):Int):Int)] h=some (.int .i64 (kd b:Int),h):=by rw[hb];exact kd_law b h n hn
  have h1:=one2_law (kd b:Int) h n (by omega)
  rw[one2_kd] at h1
  cases hd:isW b with
  |true=>
   rw[hd] at h1
   have hr:=ih (i+1) (drop_next hi)
   have:=Loops.on (run220_on h s i (kd b:Int) n hlt hs (by simp only[decide_eq_true_eq];omega) hk h1) hr
   rw[List.takeWhile_cons,if_pos hd,List.length_cons]
   rw[show i+((r.takeWhile isW).length+1)=i+1+(r.takeWhile isW).length by omega]
   exact this
  |false=>
   rw[hd] at h1
   rw[List.takeWhile_cons,if_neg (by simp[hd])]
   exact .out (run220_off h s i (kd b:Int) n hlt hs (by simp only[decide_eq_true_eq];omega) hk h1)
end
theorem run218_law(s:ByteArray)(h:Heap)(n:Nat)(hn:4≤n)(hs:s.data.toList.length≤4000):RD n 217 [.string s,.func (.func 218) #[] #[]] h=some (.int .i64 ((s.data.toList.takeWhile isD).length:Int),h):=by
 obtain⟨m,rfl⟩:∃ m,n=m+1:=⟨n - 1,by omega⟩
 have hl:=run218_loop (Heap.fresh h) s m (by omega) (by omega) s.data.toList 0 rfl
 have ht:(s.data.toList.takeWhile isD).length≤s.data.toList.length:=(List.takeWhile_prefix _).length_le
 rw[Nat.zero_add] at hl
 rw[run218_p h s _ m (hl.fact (by omega) rfl ⟨rfl,rfl,rfl,trivial⟩),finish_fresh rfl]
theorem run220_law(s:ByteArray)(h:Heap)(n:Nat)(hn:4≤n)(hs:s.data.toList.length≤4000):RD n 217 [.string s,.func (.func 220) #[] #[]] h=some (.int .i64 ((s.data.toList.takeWhile isW).length:Int),h):=by
 obtain⟨m,rfl⟩:∃ m,n=m+1:=⟨n - 1,by omega⟩
 have hl:=run220_loop (Heap.fresh h) s m (by omega) (by omega) s.data.toList 0 rfl
 have ht:(s.data.toList.takeWhile isW).length≤s.data.toList.length:=(List.takeWhile_prefix _).length_le
 rw[Nat.zero_add] at hl
 rw[run220_p h s _ m (hl.fact (by omega) rfl ⟨rfl,rfl,rfl,trivial⟩),finish_fresh rfl]
end Go.PanE
namespace Go.PanE
open Go.Proofs
/-- A byte's capital. -/
def upB(b:UInt8):UInt8:=bif decide (97≤b.toNat) && decide (b.toNat≤122) then b - 32 else b
theorem sub32{b:UInt8}(h:97≤b.toNat):((b - 32).toNat:Int)=(b.toNat:Int) - 32:=by
 have h32:(32:UInt8).toNat=32:=rfl
 have:=UInt8.toNat_sub_of_le b 32 (by rw[UInt8.le_iff_toNat_le,h32];omega)
 rw[this,h32];omega
theorem st_byte{h:Heap}{L:List UInt8}{i:Nat}{b:UInt8}{v:Int}(hv:v=(b.toNat:Int))(hi:i < L.length)(hw:h.wm≤h.nx):
  stF (storeV En (h.alloc (.row 5 (byC L) 1 false)) 5 ⟨h.nx,0+i * 1,none⟩ (.int .u8 v))=some (undef,h.alloc (.row 5 (byC (L.set i b)) 1 false)):=by
 have e:0+i * 1=i:=by omega
 rw[e,hv,st_row 1 (Heap.get_new _ _) (by kernel_rfl) rfl (byC_set b hi),Heap.put_alloc_new _ _ _ hw]
theorem set_at{L:List UInt8}{i:Nat}{x:UInt8}(y:UInt8)(h:L.drop i=x::L.drop (i+1)):(L.set i y).take (i+1)=L.take i++[y]∧(L.set i y).drop (i+1)=L.drop (i+1):=by
 have hi:i < L.length:=by
  rcases Nat.lt_or_ge i L.length with hl|hl
  ·exact hl
  ·rw[List.drop_eq_nil_of_le hl] at h;simp at h
 refine⟨?_,?_⟩
 ·rw[List.take_succ_eq_append_getElem (by simpa using hi)]
  rw[List.take_set_of_le (by omega)]
  simp
 ·rw[List.drop_set_of_lt (by omega)]
section
variable (h:Heap) (n N:Nat) (hs:N < 4611686018427387904)
include hs
theorem upA_loop:∀ (k i:Nat) (L:List UInt8),L.length=N→N - i=k→∃ L',L'.length=N∧L'=L.take i++(L.drop i).map upB∧
  Loops En (RD n) 30 5000 (sub [1,1,0,1,0,0] (bodyOf Tryz.f221)) [(3,.slice (some ⟨h.nx,0,none⟩) N N),(8,.slice (some ⟨h.nx,0,none⟩) N N),(9,.int .i64 (N:Int)),(10,.int .i64 ((i:Nat):Int))] ((Heap.fresh h).alloc (.row 5 (byC L) 1 false)) (.exit 0)
   [(3,.slice (some ⟨h.nx,0,none⟩) N N)] ((Heap.fresh h).alloc (.row 5 (byC L') 1 false)) (k+1):=by
 intro k
 induction k with
 |zero=>
  intro i L hL hk
  refine⟨L,hL,?_,.out (upA_end h L i N n (by simp only[decide_eq_false_iff_not];omega))⟩
  rw[List.drop_eq_nil_of_le (by omega),List.take_of_length_le (by omega)];simp
 |succ k ih=>
  intro i L hL hk
  have hi:i < N:=by omega
  have hx:L.drop i=L[i]::L.drop (i+1):=List.drop_eq_getElem_cons (by omega)
  have a0:decide (((i:Nat):Int) < (N:Int))=true:=by simp only[decide_eq_true_eq];omega
  generalize L[i]=x at hx
  have hb:=byte_lt x
  have hfin:∀ y L',L'=(L.set i y).take (i+1)++((L.set i y).drop (i+1)).map upB→y=upB x→L'=L.take i++(L.drop i).map upB:=by
   intro y L' h1 h2
   obtain⟨s1,s2⟩:=set_at y hx
   rw[h1,s1,s2,hx,h2];simp
  have hsame:L.set i x=L:=by
   apply List.ext_getElem (by simp)
   intro j h1 h2
   rw[List.getElem_set]
   split
   ·rename_i e
    subst e
    have:=congrArg List.head? hx
    rw[List.head?_drop] at this
    simpa[List.getElem?_eq_getElem h2] using this.symm
   ·rfl
  cases c1:decide (((x.toNat:Int):Int)≥97) with
  |false=>
   obtain⟨L',h1,h2,h3⟩:=ih (i+1) L hL (by omega)
   refine⟨L',h1,hfin x L' (by rw[hsame];exact h2) ?_,.on (upA_lo h L i N x n hL.symm hi hs hx hb a0 c1) h3⟩
   have:¬ 97≤x.toNat:=by simp only[decide_eq_false_iff_not] at c1;omega
   simp[upB,this]
  |true=>
   cases c2:decide (((x.toNat:Int):Int)≤122) with
   |false=>
    obtain⟨L',h1,h2,h3⟩:=ih (i+1) L hL (by omega)
    refine⟨L',h1,hfin x L' (by rw[hsame];exact h2) ?_,.on (upA_hi h L i N x n hL.symm hi hs hx hb a0 c1 c2) h3⟩
    have:¬ x.toNat≤122:=by simp only[decide_eq_false_iff_not] at c2;omega
    simp[upB,this]
   |true=>
    simp only[decide_eq_true_eq] at c1 c2
    have l1:97≤x.toNat:=by omega
    have l2:x.toNat≤122:=by omega
    obtain⟨L',h1,h2,h3⟩:=ih (i+1) (L.set i (x - 32)) (by simpa using hL) (by omega)
    refine⟨L',h1,hfin (x - 32) L' h2 (by simp[upB,l1,l2]),.on (upA_up h L i N x n hL.symm hi hs hx hb a0 (by simpa using c1) (by simpa using c2) (st_byte (by rw[sub32 l1];omega) (by omega) (Nat.le_refl _))) h3⟩
theorem upB_loop:∀ (k i:Nat) (L:List UInt8),L.length=N→N - i=k→∃ L',L'.length=N∧L'=L.take i++(L.drop i).map upB∧
  Loops En (RD n) 33 5000 (sub [1,1,0,1,0,0] (bodyOf Tryz.f148)) [(3,.slice (some ⟨h.nx,0,none⟩) N N),(4,.int .i64 ((i:Nat):Int))] ((Heap.fresh h).alloc (.row 5 (byC L) 1 false)) (.exit 0)
   [(3,.slice (some ⟨h.nx,0,none⟩) N N)] ((Heap.fresh h).alloc (.row 5 (byC L') 1 false)) (k+1):=by
 intro k
 induction k with
 |zero=>
  intro i L hL hk
  refine⟨L,hL,?_,.out (upB_end h L i N n (by simp only[decide_eq_false_iff_not];omega))⟩
  rw[List.drop_eq_nil_of_le (by omega),List.take_of_length_le (by omega)];simp
 |succ k ih=>
  intro i L hL hk
  have hi:i < N:=by omega
  have hx:L.drop i=L[i]::L.drop (i+1):=List.drop_eq_getElem_cons (by omega)
  have a0:decide (((i:Nat):Int) < (N:Int))=true:=by simp only[decide_eq_true_eq];omega
  generalize L[i]=x at hx
  have hb:=byte_lt x
  have hfin:∀ y L',L'=(L.set i y).take (i+1)++((L.set i y).drop (i+1)).map upB→y=upB x→L'=L.take i++(L.drop i).map upB:=by
   intro y L' h1 h2
   obtain⟨s1,s2⟩:=set_at y hx
   rw[h1,s1,s2,hx,h2];simp
  have hsame:L.set i x=L:=by
   apply List.ext_getElem (by simp)
   intro j h1 h2
   rw[List.getElem_set]
   split
   ·rename_i e
    subst e
    have:=congrArg List.head? hx
    rw[List.head?_drop] at this
    simpa[List.getElem?_eq_getElem h2] using this.symm
   ·rfl
  cases c1:decide (((x.toNat:Int):Int)≥97) with
  |false=>
   obtain⟨L',h1,h2,h3⟩:=ih (i+1) L hL (by omega)
   refine⟨L',h1,hfin x L' (by rw[hsame];exact h2) ?_,.on (upB_lo h L i N x n hL.symm hi hs hx hb a0 c1) h3⟩
   have:¬ 97≤x.toNat:=by simp only[decide_eq_false_iff_not] at c1;omega
   simp[upB,this]
  |true=>
   cases c2:decide (((x.toNat:Int):Int)≤122) with
   |false=>
    obtain⟨L',h1,h2,h3⟩:=ih (i+1) L hL (by omega)
    refine⟨L',h1,hfin x L' (by rw[hsame];exact h2) ?_,.on (upB_hi h L i N x n hL.symm hi hs hx hb a0 c1 c2) h3⟩
    have:¬ x.toNat≤122:=by simp only[decide_eq_false_iff_not] at c2;omega
    simp[upB,this]
   |true=>
    simp only[decide_eq_true_eq] at c1 c2
    have l1:97≤x.toNat:=by omega
    have l2:x.toNat≤122:=by omega
    obtain⟨L',h1,h2,h3⟩:=ih (i+1) (L.set i (x - 32)) (by simpa using hL) (by omega)
    refine⟨L',h1,hfin (x - 32) L' h2 (by simp[upB,l1,l2]),.on (upB_up h L i N x n hL.symm hi hs hx hb a0 (by simpa using c1) (by simpa using c2) (st_byte (by rw[sub32 l1]) (by omega) (Nat.le_refl _))) h3⟩
end
/-- A text in capitals. -/
def upS(s:ByteArray):ByteArray:=⟨⟨s.data.toList.map upB⟩⟩
theorem upA_law(s:ByteArray)(h:Heap)(n:Nat)(hn:1≤n)(hs:s.data.toList.length≤4000):RD n 221 [.string s] h=some (.string (upS s),h):=by
 obtain⟨m,rfl⟩:∃ m,n=m+1:=⟨n - 1,by omega⟩
 obtain⟨L',h1,h2,h3⟩:=upA_loop h m s.data.toList.length (by omega) _ 0 s.data.toList rfl rfl
 rw[upA_p h s L' s.data.toList.length m (by omega) (h3.fact' (by omega) ⟨by kernel_rfl,by kernel_rfl,by kernel_rfl,by kernel_rfl,trivial⟩) (conv_byC (Heap.get_new _ _) (by kernel_rfl) h1.symm),finish_low (by exact Nat.le_refl _) rfl]
 have:L'=s.data.toList.map upB:=by simpa using h2
 rw[this];rfl
theorem upB_law(s:ByteArray)(h:Heap)(n:Nat)(hn:1≤n)(hs:s.data.toList.length≤4000):RD n 148 [.string s] h=some (.string (upS s),h):=by
 obtain⟨m,rfl⟩:∃ m,n=m+1:=⟨n - 1,by omega⟩
 obtain⟨L',h1,h2,h3⟩:=upB_loop h m s.data.toList.length (by omega) _ 0 s.data.toList rfl rfl
 rw[upB_p h s L' s.data.toList.length m (by omega) (h3.fact' (by omega) ⟨by kernel_rfl,by kernel_rfl,trivial⟩) (conv_byC (Heap.get_new _ _) (by kernel_rfl) h1.symm),finish_low (by exact Nat.le_refl _) rfl]
 have:L'=s.data.toList.map upB:=by simpa using h2
 rw[this];rfl
end Go.PanE
namespace Go.PanE
open Go.Proofs
/-- A text's bytes behind its first quote, and the place behind its last one. -/
def textM:List UInt8→List UInt8→Nat→Option (List UInt8×Nat)
 |[],_,_=>none
 |[c],acc,i=>if c.toNat=34 then some (acc,i+1) else none
 |c::d::r,acc,i=>if c.toNat=34 then(if d.toNat=34 then textM r (acc++[34]) (i+2) else some (acc,i+1)) else textM (d::r) (acc++[c]) (i+1)
theorem textM_bound:∀ (N:Nat) (r acc:List UInt8) (i:Nat) (a:List UInt8) (e:Nat),r.length≤N→textM r acc i=some (a,e)→i < e∧e≤i+r.length∧a.length≤acc.length+r.length:=by
 intro N
 induction N with
 |zero=>
  intro r acc i a e hr h
  have:r=[]:=List.length_eq_zero_iff.1 (by omega)
  subst this;simp[textM] at h
 |succ N ih=>
  intro r acc i a e hr h
  match r,h with
  |[c],h=>
   unfold textM at h
   split at h
   ·simp only[Option.some.injEq,Prod.mk.injEq] at h
    obtain⟨rfl,rfl⟩:=h
    simp
   ·simp at h
  |c::d::r,h=>
   unfold textM at h
   simp only[List.length_cons] at hr
   split at h
   ·split at h
    ·have:=ih r _ _ a e (by omega) h
     simp only[List.length_append,List.length_cons,List.length_nil] at this ⊢
     omega
    ·simp only[Option.some.injEq,Prod.mk.injEq] at h
     obtain⟨rfl,rfl⟩:=h
     simp only[List.length_cons];omega
   ·have:=ih (d::r) _ _ a e (by simp only[List.length_cons];omega) h
    simp only[List.length_append,List.length_cons,List.length_nil] at this ⊢
    omega
theorem neB{x:Nat}(h:x=34):(((x:Int):Int) !=34)=false:=by subst h;rfl
theorem neB'{x:Nat}(h:¬ x=34):(((x:Int):Int) !=34)=true:=by
 simp only[bne_iff_ne,ne_eq];omega
section
variable (s:ByteArray) (n k:Nat) (hn:3≤n) (hs:s.data.toList.length≤4000)
include hn hs
theorem txA_loop(B:Nat)(hk:k≤B):∀ (N:Nat) (r acc:List UInt8) (i:Nat) (H:Heap),r.length≤N→s.data.toList.drop i=r→BSt H B acc→acc.length+r.length≤4000→
  ∃ H' q,q≤r.length+1∧Up k H H'∧match textM r acc i with
   |none=>Loops En (RD n) 38 5000 (sub [1,1,0,1,0,0] (bodyOf Tryz.f219)) [(0,.string s),(4,.pointer (some ⟨B,0,none⟩)),(5,.int .i64 ((i:Nat):Int))] H (.exit 0) [] H' q
   |some (a,e)=>Loops En (RD n) 38 5000 (sub [1,1,0,1,0,0] (bodyOf Tryz.f219)) [(0,.string s),(4,.pointer (some ⟨B,0,none⟩)),(5,.int .i64 ((i:Nat):Int))] H .ret [(2,.string ⟨⟨a⟩⟩),(3,.int .i64 ((e:Nat):Int))] H' q:=by
 intro N
 induction N with
 |zero=>
  intro r acc i H hr hi S hl
  have:r=[]:=List.length_eq_zero_iff.1 (by omega)
  subst this
  have:=drop_end hi
  exact⟨H,1,by simp,Up.refl _ _,.out (txA_end H s B i n (by simp only[decide_eq_false_iff_not];omega))⟩
 |succ N ih=>
  intro r acc i H hr hi S hl
  match r with
  |[]=>
   have:=drop_end hi
   exact⟨H,1,by simp,Up.refl _ _,.out (txA_end H s B i n (by simp only[decide_eq_false_iff_not];omega))⟩
  |[c]=>
   have hlt:=drop_lt hi
   have hb:=bAt_drop s i c [] hi
   have hlen:s.data.toList.length=i+1:=by
    have:=congrArg List.length hi
    simp only[List.length_drop,List.length_cons,List.length_nil] at this;omega
   have a0:decide ((((i:Nat):Int):Int) < s.data.toList.length)=true:=by simp only[decide_eq_true_eq];omega
   unfold textM
   by_cases hc:c.toNat=34
   ·rw[if_pos hc]
    obtain⟨H',e1,u1⟩:=builderString H B k acc n (by omega) S hk (by omega)
    exact⟨H',1,by simp,u1,.ret (txA_fin1 H H' s ⟨⟨acc⟩⟩ B i n hlt (by omega) a0 (by rw[hb];exact neB hc) (by rw[hlen];simp) e1)⟩
   ·rw[if_neg hc]
    obtain⟨H',e1,S1,u1⟩:=writeByte H B k acc c n (by omega) S hk (by omega)
    have hi':=drop_next hi
    have b1:=txA_wr H H' s B i n hlt (by omega) a0 (by rw[hb];exact neB' hc) (by rw[hb];exact e1)
    have hend:=drop_end hi'
    exact⟨H',2,by simp,u1,.on b1 (.out (txA_end H' s B (i+1) n (by simp only[decide_eq_false_iff_not];omega)))⟩
  |c::d::r=>
   simp only[List.length_cons] at hr hl
   have hlt:=drop_lt hi
   have hb:=bAt_drop s i c (d::r) hi
   have hi':=drop_next hi
   have hlt':=drop_lt hi'
   have hb'':bAt s (((i:Nat):Int)+1)=d.toNat:=bAt_drop s (i+1) d r hi'
   have a0:decide ((((i:Nat):Int):Int) < s.data.toList.length)=true:=by simp only[decide_eq_true_eq];omega
   have a2:((((i:Nat):Int)+1:Int)==s.data.toList.length)=false:=by simp only[beq_eq_false_iff_ne,ne_eq];omega
   unfold textM
   by_cases hc:c.toNat=34
   ·rw[if_pos hc]
    by_cases hd:d.toNat=34
    ·rw[if_pos hd]
     obtain⟨H1,e1,S1,u1⟩:=writeByte H B k acc 34 n (by omega) S hk (by omega)
     obtain⟨H',q,hq,u2,hl2⟩:=ih r (acc++[34]) (i+2) H1 (by omega) (drop_next hi') S1 (by simp only[List.length_append,List.length_cons,List.length_nil];omega)
     have b1:=txA_dbl H H1 s B i n hlt (by omega) hlt' a0 (by rw[hb];exact neB hc) a2 (by rw[hb''];exact neB hd) e1
     refine⟨H',q+1,by simp only[List.length_cons];omega,u1.trans u2,?_⟩
     split at hl2
     ·exact .on b1 hl2
     ·exact .on b1 hl2
    ·rw[if_neg hd]
     obtain⟨H',e1,u1⟩:=builderString H B k acc n (by omega) S hk (by omega)
     exact⟨H',1,by simp,u1,.ret (txA_fin2 H H' s ⟨⟨acc⟩⟩ B i n hlt (by omega) hlt' a0 (by rw[hb];exact neB hc) a2 (by rw[hb''];exact neB' hd) e1)⟩
   ·rw[if_neg hc]
    obtain⟨H1,e1,S1,u1⟩:=writeByte H B k acc c n (by omega) S hk (by omega)
    obtain⟨H',q,hq,u2,hl2⟩:=ih (d::r) (acc++[c]) (i+1) H1 (by simp only[List.length_cons];omega) hi' S1 (by simp only[List.length_append,List.length_cons,List.length_nil];omega)
    have b1:=txA_wr H H1 s B i n hlt (by omega) a0 (by rw[hb];exact neB' hc) (by rw[hb];exact e1)
    refine⟨H',q+1,by simp only[List.length_cons] at hq ⊢;omega,u1.trans u2,?_⟩
    split at hl2
    ·exact .on b1 hl2
    ·exact .on b1 hl2
end
/-- lex.text, at a text that begins with a quote (or with whatever byte). -/
theorem txA_law(s:ByteArray)(h:Heap)(n:Nat)(hn:4≤n)(hs:s.data.toList.length≤4000):
  RD n 219 [.string s] h=some ((match textM (s.data.toList.drop 1) [] 1 with|some (a,e)=>.tuple #[.string ⟨⟨a⟩⟩,.int .i64 ((e:Nat):Int)]|none=>.tuple #[.string ⟨#[]⟩,.int .i64 0]),h):=by
 obtain⟨m,rfl⟩:∃ m,n=m+1:=⟨n - 1,by omega⟩
 have S0:BSt ((Heap.fresh h).alloc (.row 226 [.pointer none,.slice none 0 0] 0 false)) (Heap.fresh h).nx []:=⟨by rw[Heap.nx_alloc];omega,.inl ⟨rfl,Heap.get_new _ _⟩⟩
 obtain⟨H',q,hq,u,hl⟩:=txA_loop s m h.nx (by omega) hs (Heap.fresh h).nx (Nat.le_refl _) _ (s.data.toList.drop 1) [] 1 _ (Nat.le_refl _) rfl S0 (by rw[List.length_drop,List.length_nil];omega)
 have hw:h.nx≤H'.wm:=by
  have:=u.wm
  have e:((Heap.fresh h).alloc (.row 226 [.pointer none,.slice none 0 0] 0 false)).wm=h.nx:=rfl
  omega
 have hq':q≤5000:=by
  rw[List.length_drop] at hq;omega
 split at hl
 ·rename_i e
  rw[e]
  exact(txA_none h H' s m (hl.fact' hq' ⟨by kernel_rfl,by kernel_rfl,by kernel_rfl,trivial⟩)).trans (by rw[finish_low hw rfl])
 ·rename_i a e he
  rw[he]
  exact(txA_some h H' s ⟨⟨a⟩⟩ (e:Int) m (hl.fact' hq' ⟨by kernel_rfl,by kernel_rfl,by kernel_rfl,trivial⟩)).trans (by rw[finish_low hw rfl])
end Go.PanE
namespace Go.PanE
open Go.Proofs
theorem ba_app(a b:List UInt8):(⟨⟨a⟩⟩:ByteArray)++⟨⟨b⟩⟩=⟨⟨a++b⟩⟩:=by
 have:((⟨⟨a⟩⟩:ByteArray)++⟨⟨b⟩⟩).data=(⟨⟨a++b⟩⟩:ByteArray).data:=by
  rw[ByteArray.data_append];simp
 exact ByteArray.ext this
theorem ba_size(a:List UInt8):(⟨⟨a⟩⟩:ByteArray).size=a.length:=rfl
theorem cutS_one{s:ByteArray}{i:Nat}{c:UInt8}{r:List UInt8}(h:s.data.toList.drop i=c::r):cutS s ((i:Nat):Int) (((i:Nat):Int)+1)=⟨⟨[c]⟩⟩:=by
 unfold cutS
 have e:(((i:Nat):Int)+1).toNat - ((i:Nat):Int).toNat=1:=by omega
 rw[e,Int.toNat_natCast,h];rfl
theorem eqB{x:Nat}(h:x=34):(((x:Int):Int)==34)=true:=by subst h;rfl
theorem eqB'{x:Nat}(h:¬ x=34):(((x:Int):Int)==34)=false:=by
 simp only[beq_eq_false_iff_ne,ne_eq];omega
section
variable (s:ByteArray) (n:Nat) (hs:s.data.toList.length≤4000)
include hs
theorem txB_loop(B:Nat)(at_:Nat)(H:Heap)(hB:H.get B=some (.row 199 [.int .i64 0,.int .i64 0,.string ⟨#[]⟩,.int .i64 0] 0 false)):∀ (N:Nat) (r acc:List UInt8) (i:Nat),r.length≤N→s.data.toList.drop i=r→acc.length+r.length≤4000→at_ < i→
  ∃ q,q≤r.length+1∧match textM r acc i with
   |none=>Loops En (RD n) 51 5000 (sub [1,1,0,1,0,0] (bodyOf Tryz.f149)) [(0,.string s),(1,.int .i64 (at_:Int)),(4,.pointer (some ⟨B,0,none⟩)),(6,.string ⟨⟨acc⟩⟩),(7,.int .i64 ((i:Nat):Int))] H (.exit 0) [(4,.pointer (some ⟨B,0,none⟩))] H q
   |some (a,e)=>Loops En (RD n) 51 5000 (sub [1,1,0,1,0,0] (bodyOf Tryz.f149)) [(0,.string s),(1,.int .i64 (at_:Int)),(4,.pointer (some ⟨B,0,none⟩)),(6,.string ⟨⟨acc⟩⟩),(7,.int .i64 ((i:Nat):Int))] H .ret [(4,.pointer (some ⟨B,0,none⟩)),(5,.int .i64 (((e:Nat):Int) - (at_:Int)))]
     (H.put B (.row 199 [.int .i64 2,.int .i64 0,.string ⟨⟨a⟩⟩,.int .i64 (at_:Int)] 0 false)) q:=by
 intro N
 induction N with
 |zero=>
  intro r acc i hr hi hl hat
  have:r=[]:=List.length_eq_zero_iff.1 (by omega)
  subst this
  have:=drop_end hi
  exact⟨1,by simp,.out (txB_end H s ⟨⟨acc⟩⟩ B i at_ n (by simp only[decide_eq_false_iff_not];omega))⟩
 |succ N ih=>
  intro r acc i hr hi hl hat
  match r with
  |[]=>
   have:=drop_end hi
   exact⟨1,by simp,.out (txB_end H s ⟨⟨acc⟩⟩ B i at_ n (by simp only[decide_eq_false_iff_not];omega))⟩
  |[c]=>
   have hlt:=drop_lt hi
   have hb:=bAt_drop s i c [] hi
   have hlen:s.data.toList.length=i+1:=by
    have:=congrArg List.length hi
    simp only[List.length_drop,List.length_cons,List.length_nil] at this;omega
   have a0:decide ((((i:Nat):Int):Int) < s.data.toList.length)=true:=by simp only[decide_eq_true_eq];omega
   have hacc:(⟨⟨acc⟩⟩:ByteArray).size < 4611686018427387904:=by rw[ba_size];omega
   unfold textM
   by_cases hc:c.toNat=34
   ·rw[if_pos hc]
    exact⟨1,by simp,.ret (txB_fin1 H s ⟨⟨acc⟩⟩ B i at_ n hlt (by omega) hacc hat hB a0 (by rw[hb];exact neB hc) (by simp only[decide_eq_false_iff_not];omega) rfl)⟩
   ·rw[if_neg hc]
    have hcut:=cutS_one hi
    have b1:=txB_wr H s ⟨⟨acc⟩⟩ B i at_ n hlt (by omega) hacc hat (by rw[hcut,ba_size,ba_size];simp only[List.length_cons,List.length_nil] at hl ⊢;omega) a0 (by rw[hb];exact neB' hc) rfl
    rw[hcut,ba_app] at b1
    have hend:=drop_end (drop_next hi)
    exact⟨2,by simp,.on b1 (.out (txB_end H s ⟨⟨acc++[c]⟩⟩ B (i+1) at_ n (by simp only[decide_eq_false_iff_not];omega)))⟩
  |c::d::r=>
   simp only[List.length_cons] at hr hl
   have hlt:=drop_lt hi
   have hb:=bAt_drop s i c (d::r) hi
   have hi':=drop_next hi
   have hlt':=drop_lt hi'
   have hb'':bAt s (((i:Nat):Int)+1)=d.toNat:=bAt_drop s (i+1) d r hi'
   have a0:decide ((((i:Nat):Int):Int) < s.data.toList.length)=true:=by simp only[decide_eq_true_eq];omega
   have a2:decide ((((i:Nat):Int)+1:Int) < s.data.toList.length)=true:=by simp only[decide_eq_true_eq];omega
   have hacc:(⟨⟨acc⟩⟩:ByteArray).size < 4611686018427387904:=by rw[ba_size];omega
   unfold textM
   by_cases hc:c.toNat=34
   ·rw[if_pos hc]
    by_cases hd:d.toNat=34
    ·rw[if_pos hd]
     obtain⟨q,hq,hl2⟩:=ih r (acc++[34]) (i+2) (by omega) (drop_next hi') (by simp only[List.length_append,List.length_cons,List.length_nil];omega) (by omega)
     have b1:=txB_dbl H s ⟨⟨acc⟩⟩ B i at_ n hlt (by omega) hacc hat hlt' (by rw[ba_size];show acc.length+1≤_;omega) a0 (by rw[hb];exact neB hc) a2 (by rw[hb''];exact eqB hd)
     rw[show(⟨#[34]⟩:ByteArray)=⟨⟨[34]⟩⟩ from rfl,ba_app] at b1
     refine⟨q+1,by simp only[List.length_cons];omega,?_⟩
     split at hl2
     ·exact .on b1 hl2
     ·exact .on b1 hl2
    ·rw[if_neg hd]
     exact⟨1,by simp,.ret (txB_fin2 H s ⟨⟨acc⟩⟩ B i at_ n hlt (by omega) hacc hat hlt' hB a0 (by rw[hb];exact neB hc) a2 (by rw[hb''];exact eqB' hd) rfl)⟩
   ·rw[if_neg hc]
    obtain⟨q,hq,hl2⟩:=ih (d::r) (acc++[c]) (i+1) (by simp only[List.length_cons];omega) hi' (by simp only[List.length_append,List.length_cons,List.length_nil];omega) (by omega)
    have hcut:=cutS_one hi
    have b1:=txB_wr H s ⟨⟨acc⟩⟩ B i at_ n hlt (by omega) hacc hat (by rw[hcut,ba_size,ba_size];simp only[List.length_cons,List.length_nil];omega) a0 (by rw[hb];exact neB' hc) rfl
    rw[hcut,ba_app] at b1
    refine⟨q+1,by simp only[List.length_cons] at hq ⊢;omega,?_⟩
    split at hl2
    ·exact .on b1 hl2
    ·exact .on b1 hl2
end
/-- A token's value. -/
def tokV(kind n:Int)(s:ByteArray)(at_:Int):Value:=.agg #[.int .i64 kind,.int .i64 n,.string s,.int .i64 at_]
def noTok:Value:=tokV 0 0 ⟨#[]⟩ 0
/-- The reference's text. -/
theorem txB_law(s:ByteArray)(at_:Nat)(h:Heap)(n:Nat)(hn:1≤n)(hs:s.data.toList.length≤4000)(hat:at_≤4000):
  RD n 149 [.string s,.int .i64 (at_:Int)] h=some ((match textM (s.data.toList.drop (at_+1)) [] (at_+1) with|some (a,e)=>.tuple #[tokV 2 0 ⟨⟨a⟩⟩ (at_:Int),.int .i64 (((e:Nat):Int) - (at_:Int))]|none=>.tuple #[noTok,.int .i64 0]),h):=by
 obtain⟨m,rfl⟩:∃ m,n=m+1:=⟨n - 1,by omega⟩
 obtain⟨q,hq,hl⟩:=txB_loop s m hs (Heap.fresh h).nx at_ ((Heap.fresh h).alloc (.row 199 [.int .i64 0,.int .i64 0,.string ⟨#[]⟩,.int .i64 0] 0 false)) (Heap.get_new _ _) _ (s.data.toList.drop (at_+1)) [] (at_+1) (Nat.le_refl _) rfl (by rw[List.length_drop,List.length_nil];omega) (by omega)
 have hq':q≤5000:=by
  rw[List.length_drop] at hq;omega
 split at hl
 ·rename_i e
  rw[e]
  exact(txB_none h s at_ m (by omega) (hl.fact' hq' ⟨by kernel_rfl,by kernel_rfl,by kernel_rfl,by kernel_rfl,by kernel_rfl,trivial⟩)).trans (by rw[finish_low (by rw[Heap.wm_put,Heap.wm_alloc];show h.nx≤min h.nx h.nx;omega) rfl];rfl)
 ·rename_i a e he
  rw[he]
  exact(txB_some h s ⟨⟨a⟩⟩ at_ (((e:Nat):Int) - (at_:Int)) m (by omega) (hl.fact' hq' ⟨by kernel_rfl,by kernel_rfl,by kernel_rfl,by kernel_rfl,by kernel_rfl,trivial⟩)).trans (by rw[finish_low (by rw[Heap.wm_put,Heap.wm_alloc];show h.nx≤min h.nx h.nx;omega) rfl];rfl)
end Go.PanE
namespace Go.PanE
open Go.Proofs
noncomputable section
abbrev x9_1:List Value:=[iv 0,iv 0,.string ⟨#[]⟩,iv 0]
abbrev x9_2:Value:=.tuple #[.agg #[iv 0,iv 0,.string ⟨#[]⟩,iv 0],iv 0]
abbrev x9_3:Value:=.agg #[iv 0,iv 0,.string ⟨#[]⟩,iv 0]
theorem on_int(h:Heap)(s:ByteArray)(k m:Nat)(v:Int)(n:Nat)(_h1:0 < s.data.toList.length)(_h2:s.data.toList.length < 4611686018427387904)(_h3:(m:Int)≤s.data.toList.length)(a0:Pu n 196 [.int .u8 (bAt s 0:Int)] (iv (k:Int)) (al h.fresh 199 x9_1))(a1:(((k:Int):Int)==2)=true)(a2:Pu n 217 [.string s,.func (.func 218) #[] #[]] (iv (m:Int)) (al h.fresh 199 x9_1))(a3:Pu n 106 [.string (cutS s 0 (m:Int)),iv 10,iv 64] (.tuple #[iv v,.nilIface]) (al h.fresh 199 x9_1)):Fn n 197 [.string s] h (.tuple #[.agg #[iv 1,iv v,.string ⟨#[]⟩,iv 0],iv (m:Int)]) (pt (al h.fresh 199 x9_1) h.nx 199 [iv 1,iv v,.string ⟨#[]⟩,iv 0]):=
 fnT (kZ h) [aS 199 x9_1,yI 9 s 0,yP a0,yT a1,yP a2,cH 9 s (m:Int),yP a3,bF,.w 0 199 0 (.agg #[iv 1,iv v,.string ⟨#[]⟩,iv 0]),.r 0 199 4,.z 1]
theorem on_text(h:Heap)(s t:ByteArray)(k:Nat)(e:Int)(n:Nat)(_h1:0 < s.data.toList.length)(_h2:s.data.toList.length < 4611686018427387904)(a0:Pu n 196 [.int .u8 (bAt s 0:Int)] (iv (k:Int)) (al h.fresh 199 x9_1))(a1:(((k:Int):Int)==2)=false)(a2:(((k:Int):Int)==4)=true)(a3:Pu n 219 [.string s] (.tuple #[.string t,iv e]) (al h.fresh 199 x9_1)):Fn n 197 [.string s] h (.tuple #[.agg #[iv 2,iv 0,.string t,iv 0],iv e]) (pt (al h.fresh 199 x9_1) h.nx 199 [iv 2,iv 0,.string t,iv 0]):=
 fnT (kZ h) [aS 199 x9_1,yI 9 s 0,yP a0,yF a1,yT a2,yP a3,.w 0 199 0 (.agg #[iv 2,iv 0,.string t,iv 0]),.r 0 199 4,.z 1]
theorem on_word(h:Heap)(s t:ByteArray)(k m:Nat)(n:Nat)(_h1:0 < s.data.toList.length)(_h2:s.data.toList.length < 4611686018427387904)(_h3:(m:Int)≤s.data.toList.length)(a0:Pu n 196 [.int .u8 (bAt s 0:Int)] (iv (k:Int)) (al h.fresh 199 x9_1))(a1:(((k:Int):Int)==2)=false)(a2:(((k:Int):Int)==4)=false)(a3:(((k:Int):Int)==3)=true)(a4:Pu n 217 [.string s,.func (.func 220) #[] #[]] (iv (m:Int)) (al h.fresh 199 x9_1))(a5:Pu n 221 [.string (cutS s 0 (m:Int))] (.string t) (al h.fresh 199 x9_1)):Fn n 197 [.string s] h (.tuple #[.agg #[iv 3,iv 0,.string t,iv 0],iv (m:Int)]) (pt (al h.fresh 199 x9_1) h.nx 199 [iv 3,iv 0,.string t,iv 0]):=
 fnT (kZ h) [aS 199 x9_1,yI 9 s 0,yP a0,yF a1,yF a2,yT a3,yP a4,cH 9 s (m:Int),yP a5,.w 0 199 0 (.agg #[iv 3,iv 0,.string t,iv 0]),.r 0 199 4,.z 1]
theorem on_sign(h:Heap)(s:ByteArray)(k m:Nat)(n:Nat)(_h1:0 < s.data.toList.length)(_h2:s.data.toList.length < 4611686018427387904)(_h3:(m:Int)≤s.data.toList.length)(a0:Pu n 196 [.int .u8 (bAt s 0:Int)] (iv (k:Int)) (al h.fresh 199 x9_1))(a1:(((k:Int):Int)==2)=false)(a2:(((k:Int):Int)==4)=false)(a3:(((k:Int):Int)==3)=false)(a4:(((k:Int):Int)==5)=true)(a5:Pu n 222 [.string s] (iv (m:Int)) (al h.fresh 199 x9_1)):Fn n 197 [.string s] h (.tuple #[.agg #[iv 4,iv 0,.string (cutS s 0 (m:Int)),iv 0],iv (m:Int)]) (pt (al h.fresh 199 x9_1) h.nx 199 [iv 4,iv 0,.string (cutS s 0 (m:Int)),iv 0]):=
 fnT (kZ h) [aS 199 x9_1,yI 9 s 0,yP a0,yF a1,yF a2,yF a3,yT a4,yP a5,cH 9 s (m:Int),.w 0 199 0 (.agg #[iv 4,iv 0,.string (cutS s 0 (m:Int)),iv 0]),.r 0 199 4,.z 1]
theorem on_none(h:Heap)(s:ByteArray)(k:Nat)(n:Nat)(_h1:0 < s.data.toList.length)(_h2:s.data.toList.length < 4611686018427387904)(a0:Pu n 196 [.int .u8 (bAt s 0:Int)] (iv (k:Int)) (al h.fresh 199 x9_1))(a1:(((k:Int):Int)==2)=false)(a2:(((k:Int):Int)==4)=false)(a3:(((k:Int):Int)==3)=false)(a4:(((k:Int):Int)==5)=false):Fn n 197 [.string s] h x9_2 (pt (al h.fresh 199 x9_1) h.nx 199 x9_1):=
 fnT (kZ h) [aS 199 x9_1,yI 9 s 0,yP a0,yF a1,yF a2,yF a3,yF a4,.w 0 199 0 x9_3,.r 0 199 4,.z 1]
theorem on_bad(h:Heap)(s:ByteArray)(k m:Nat)(v:Int)(n:Nat)(_h1:0 < s.data.toList.length)(_h2:s.data.toList.length < 4611686018427387904)(_h3:(m:Int)≤s.data.toList.length)(a0:Pu n 196 [.int .u8 (bAt s 0:Int)] (iv (k:Int)) (al h.fresh 199 x9_1))(a1:(((k:Int):Int)==2)=true)(a2:Pu n 217 [.string s,.func (.func 218) #[] #[]] (iv (m:Int)) (al h.fresh 199 x9_1))(a3:RD n 106 [.string (cutS s 0 (m:Int)),iv 10,iv 64] (al h.fresh 199 x9_1)=some (.tuple #[iv v,.iface 279 (pv (h.nx+1) 0)],reserve 1 (al h.fresh 199 x9_1))):Fn n 197 [.string s] h x9_2 (pt (reserve 1 (al h.fresh 199 x9_1)) h.nx 199 x9_1):=
 fnT (kZ h) [aS 199 x9_1,yI 9 s 0,yP a0,yT a1,yP a2,cH 9 s (m:Int),yC a3 (kI (ko (show(reserve 1 (al h.fresh 199 x9_1)).get h.nx=_ from(gR gN)))),bT,.w 0 199 0 x9_3,.r 0 199 4,.z 1]
end
end Go.PanE
