/-
 Part 22 of the proof of Rows.DumpLinesCardSaid. No conditions.
-/
import Derived.Test.YtihkphfmnnndfaaGreatDoorT21
namespace Go.PanE
open Go.Proofs
def upB(b:UInt8):UInt8:=bif decide (97≤b.toNat) && decide (b.toNat≤122) then b - 32 else b
theorem zpx{b:UInt8}(h:97≤b.toNat):((b - 32).toNat:Int)=(b.toNat:Int) - 32:=by
 have h32:(32:UInt8).toNat=32:=rfl
 have:=UInt8.toNat_sub_of_le b 32 (by rw[UInt8.le_iff_toNat_le,h32];omega)
 rw[this,h32];omega
theorem zhM{h:Heap}{L:Bsy}{i:Nat}{b:UInt8}{v:Int}(hv:v=(b.toNat:Int))(hi:i < L.length)(hw:h.wm≤h.nx):
  stF (ym En (h.alloc (.row 5 (byC L) 1 false)) 5 ⟨h.nx,0+i * 1,none⟩ (.int .u8 v))=some (undef,h.alloc (.row 5 (byC (L.set i b)) 1 false)):=by
 have e:0+i * 1=i:=by omega
 rw[e,hv,yp 1 (zb _ _) (by kernel_rfl) rfl (zr1 b hi),zcp _ _ _ hw]
theorem zkS{L:Bsy}{i:Nat}{x:UInt8}(y:UInt8)(h:L.drop i=x::L.drop (i+1)):(L.set i y).take (i+1)=L.take i++[y]∧(L.set i y).drop (i+1)=L.drop (i+1):=by
 have hi:i < L.length:=by
  rcases Nat.lt_or_ge i L.length with hl|hl
  ·exact hl
  ·rw[List.drop_eq_nil_of_le hl] at h;simp at h
 refine⟨?_,?_⟩
 ·rw[List.take_succ_eq_append_getElem (by simpa using hi)]
  rw[List.take_set_of_le (by omega)]
  simp
 ·rw[List.drop_set_of_lt (by omega)]
section
variable (h:Heap) (n N:Nat) (hs:N < 4611686018427387904)
include hs
theorem zmH:∀ (k i:Nat) (L:Bsy),L.length=N→N - i=k→∃ L',L'.length=N∧L'=L.take i++(L.drop i).map upB∧
  Loops En (RD n) 30 18446744073709551616 (sub [1,1,0,1,0,0] (zp Tryz.f221)) [(3,.slice (some ⟨h.nx,0,none⟩) N N),(8,.slice (some ⟨h.nx,0,none⟩) N N),(9,.int .i64 (N:Int)),(10,.int .i64 (i:Int))] ((Heap.fh h).alloc (.row 5 (byC L) 1 false)) (.exit 0)
   [(3,.slice (some ⟨h.nx,0,none⟩) N N)] ((Heap.fh h).alloc (.row 5 (byC L') 1 false)) (k+1):=by
 intro k
 induction k with
 |zero=>
  intro i L hL hk
  refine⟨L,hL,?_,.out (zp8 h L i N n (by simp only[decide_eq_false_iff_not];omega))⟩
  rw[List.drop_eq_nil_of_le (by omega),List.take_of_length_le (by omega)];simp
 |succ k ih=>
  intro i L hL hk
  have hi:i < N:=by omega
  have hx:L.drop i=L[i]::L.drop (i+1):=List.drop_eq_getElem_cons (by omega)
  have a0:decide ((i:Int) < (N:Int))=true:=by simp only[decide_eq_true_eq];omega
  generalize L[i]=x at hx
  have hb:=vu x
  have hfin:∀ y L',L'=(L.set i y).take (i+1)++((L.set i y).drop (i+1)).map upB→y=upB x→L'=L.take i++(L.drop i).map upB:=by
   intro y L' h1 h2
   obtain⟨s1,s2⟩:=zkS y hx
   rw[h1,s1,s2,hx,h2];simp
  have hsame:L.set i x=L:=by
   apply List.ext_getElem (by simp)
   intro j h1 h2
   rw[List.getElem_set]
   split
   ·rename_i e
    subst e
    have:=congrArg List.head? hx
    rw[List.head?_drop] at this
    simpa[List.getElem?_eq_getElem h2] using this.symm
   ·rfl
  cases c1:decide (((x.toNat:Int):Int)≥97) with
  |false=>
   obtain⟨L',h1,h2,h3⟩:=ih (i+1) L hL (by omega)
   refine⟨L',h1,hfin x L' (by rw[hsame];exact h2) ?_,.on (zsv h L i N x n hL.symm hi hs hx hb a0 c1) h3⟩
   have:¬ 97≤x.toNat:=by simp only[decide_eq_false_iff_not] at c1;omega
   simp[upB,this]
  |true=>
   cases c2:decide (((x.toNat:Int):Int)≤122) with
   |false=>
    obtain⟨L',h1,h2,h3⟩:=ih (i+1) L hL (by omega)
    refine⟨L',h1,hfin x L' (by rw[hsame];exact h2) ?_,.on (zsw h L i N x n hL.symm hi hs hx hb a0 c1 c2) h3⟩
    have:¬ x.toNat≤122:=by simp only[decide_eq_false_iff_not] at c2;omega
    simp[upB,this]
   |true=>
    simp only[decide_eq_true_eq] at c1 c2
    have l1:97≤x.toNat:=by omega
    have l2:x.toNat≤122:=by omega
    obtain⟨L',h1,h2,h3⟩:=ih (i+1) (L.set i (x - 32)) (by simpa using hL) (by omega)
    refine⟨L',h1,hfin (x - 32) L' h2 (by simp[upB,l1,l2]),.on (zsu h L i N x n hL.symm hi hs hx hb a0 (by simpa using c1) (by simpa using c2) (zhM (by rw[zpx l1];omega) (by omega) (nL_ _))) h3⟩
theorem zmG:∀ (k i:Nat) (L:Bsy),L.length=N→N - i=k→∃ L',L'.length=N∧L'=L.take i++(L.drop i).map upB∧
  Loops En (RD n) 33 18446744073709551616 (sub [1,1,0,1,0,0] (zp Tryz.f148)) [(3,.slice (some ⟨h.nx,0,none⟩) N N),(4,.int .i64 (i:Int))] ((Heap.fh h).alloc (.row 5 (byC L) 1 false)) (.exit 0)
   [(3,.slice (some ⟨h.nx,0,none⟩) N N)] ((Heap.fh h).alloc (.row 5 (byC L') 1 false)) (k+1):=by
 intro k
 induction k with
 |zero=>
  intro i L hL hk
  refine⟨L,hL,?_,.out (zp6 h L i N n (by simp only[decide_eq_false_iff_not];omega))⟩
  rw[List.drop_eq_nil_of_le (by omega),List.take_of_length_le (by omega)];simp
 |succ k ih=>
  intro i L hL hk
  have hi:i < N:=by omega
  have hx:L.drop i=L[i]::L.drop (i+1):=List.drop_eq_getElem_cons (by omega)
  have a0:decide ((i:Int) < (N:Int))=true:=by simp only[decide_eq_true_eq];omega
  generalize L[i]=x at hx
  have hb:=vu x
  have hfin:∀ y L',L'=(L.set i y).take (i+1)++((L.set i y).drop (i+1)).map upB→y=upB x→L'=L.take i++(L.drop i).map upB:=by
   intro y L' h1 h2
   obtain⟨s1,s2⟩:=zkS y hx
   rw[h1,s1,s2,hx,h2];simp
  have hsame:L.set i x=L:=by
   apply List.ext_getElem (by simp)
   intro j h1 h2
   rw[List.getElem_set]
   split
   ·rename_i e
    subst e
    have:=congrArg List.head? hx
    rw[List.head?_drop] at this
    simpa[List.getElem?_eq_getElem h2] using this.symm
   ·rfl
  cases c1:decide (((x.toNat:Int):Int)≥97) with
  |false=>
   obtain⟨L',h1,h2,h3⟩:=ih (i+1) L hL (by omega)
   refine⟨L',h1,hfin x L' (by rw[hsame];exact h2) ?_,.on (zss h L i N x n hL.symm hi hs hx hb a0 c1) h3⟩
   have:¬ 97≤x.toNat:=by simp only[decide_eq_false_iff_not] at c1;omega
   simp[upB,this]
  |true=>
   cases c2:decide (((x.toNat:Int):Int)≤122) with
   |false=>
    obtain⟨L',h1,h2,h3⟩:=ih (i+1) L hL (by omega)
    refine⟨L',h1,hfin x L' (by rw[hsame];exact h2) ?_,.on (zst h L i N x n hL.symm hi hs hx hb a0 c1 c2) h3⟩
    have:¬ x.toNat≤122:=by simp only[decide_eq_false_iff_not] at c2;omega
    simp[upB,this]
   |true=>
    simp only[decide_eq_true_eq] at c1 c2
    have l1:97≤x.toNat:=by omega
    have l2:x.toNat≤122:=by omega
    obtain⟨L',h1,h2,h3⟩:=ih (i+1) (L.set i (x - 32)) (by simpa using hL) (by omega)
    refine⟨L',h1,hfin (x - 32) L' h2 (by simp[upB,l1,l2]),.on (zsr h L i N x n hL.symm hi hs hx hb a0 (by simpa using c1) (by simpa using c2) (zhM (by rw[zpx l1]) (by omega) (nL_ _))) h3⟩
end
def upS(s:BA):BA:=⟨⟨s.data.toList.map upB⟩⟩
theorem zp7(s:BA)(h:Heap)(n:Nat)(hn:1≤n)(hs:s.data.toList.length≤4000):RD n 221 [.string s] h=some (.string (upS s),h):=by
 obtain⟨m,rfl⟩:=zs_ n
 obtain⟨L',h1,h2,h3⟩:=zmH h m s.data.toList.length (by omega) _ 0 s.data.toList rfl rfl
 rw[zvp h s L' s.data.toList.length m (by omega) (h3.fact2 (by omega) (by kernel_rfl)) (zhi (zb _ _) (by kernel_rfl) h1.symm),zk (by exact nL_ _) rfl]
 have:L'=s.data.toList.map upB:=by simpa using h2
 rw[this];rfl
theorem zp5(s:BA)(h:Heap)(n:Nat)(hn:1≤n)(hs:s.data.toList.length≤4000):RD n 148 [.string s] h=some (.string (upS s),h):=by
 obtain⟨m,rfl⟩:=zs_ n
 obtain⟨L',h1,h2,h3⟩:=zmG h m s.data.toList.length (by omega) _ 0 s.data.toList rfl rfl
 rw[zvo h s L' s.data.toList.length m (by omega) (h3.fact2 (by omega) (by kernel_rfl)) (zhi (zb _ _) (by kernel_rfl) h1.symm),zk (by exact nL_ _) rfl]
 have:L'=s.data.toList.map upB:=by simpa using h2
 rw[this];rfl
def wW:Bsy→Bsy→Nat→Option (Bsy×Nat)
 |[],_,_=>none
 |[c],acc,i=>if c.toNat=34 then some (acc,i+1) else none
 |c::d::r,acc,i=>if c.toNat=34 then(if d.toNat=34 then wW r (acc++[34]) (i+2) else some (acc,i+1)) else wW (d::r) (acc++[c]) (i+1)
theorem zaT:∀ (N:Nat) (r acc:Bsy) (i:Nat) (a:Bsy) (e:Nat),r.length≤N→wW r acc i=some (a,e)→i < e∧e≤i+r.length∧a.length≤acc.length+r.length:=by
 intro N
 induction N with
 |zero=>
  intro r acc i a e hr h
  have:r=[]:=List.length_eq_zero_iff.1 (by omega)
  subst this;simp[wW] at h
 |succ N ih=>
  intro r acc i a e hr h
  match r,h with
  |[c],h=>
   unfold wW at h
   split at h
   ·simp only[sJ,pJ] at h
    obtain⟨rfl,rfl⟩:=h
    simp
   ·simp at h
  |c::d::r,h=>
   unfold wW at h
   simp only[lC] at hr
   split at h
   ·split at h
    ·have:=ih r _ _ a e (by omega) h
     simp only[lA,lC,lN] at this ⊢
     omega
    ·simp only[sJ,pJ] at h
     obtain⟨rfl,rfl⟩:=h
     simp only[lC];omega
   ·have:=ih (d::r) _ _ a e (by simp only[lC];omega) h
    simp only[lA,lC,lN] at this ⊢
    omega
theorem neB{x:Nat}(h:x=34):((x:Int) !=34)=false:=by subst h;rfl
theorem zgJ{x:Nat}(h:¬ x=34):((x:Int) !=34)=true:=by
 simp only[bne_iff_ne,ne_eq];omega
section
variable (s:BA) (n k:Nat) (hn:3≤n) (hs:s.data.toList.length≤4000)
include hn hs
theorem zmR(B:Nat)(hk:k≤B):∀ (N:Nat) (r acc:Bsy) (i:Nat) (H:Heap),r.length≤N→s.data.toList.drop i=r→BSt H B acc→acc.length+r.length≤4000→
  ∃ H' q,q≤r.length+1∧Up k H H'∧match wW r acc i with
   |none=>Loops En (RD n) 38 18446744073709551616 (sub [1,1,0,1,0,0] (zp Tryz.f219)) [(0,.string s),(4,.pointer (some ⟨B,0,none⟩)),(5,.int .i64 (i:Int))] H (.exit 0) [] H' q
   |some (a,e)=>Loops En (RD n) 38 18446744073709551616 (sub [1,1,0,1,0,0] (zp Tryz.f219)) [(0,.string s),(4,.pointer (some ⟨B,0,none⟩)),(5,.int .i64 (i:Int))] H .ret [(2,.string ⟨⟨a⟩⟩),(3,.int .i64 (e:Int))] H' q:=by
 intro N
 induction N with
 |zero=>
  intro r acc i H hr hi S hl
  have:r=[]:=List.length_eq_zero_iff.1 (by omega)
  subst this
  have:=ji hi
  exact⟨H,1,by simp,Up.refl _ _,.out (zeu H s B i n (by simp only[decide_eq_false_iff_not];omega))⟩
 |succ N ih=>
  intro r acc i H hr hi S hl
  match r with
  |[]=>
   have:=ji hi
   exact⟨H,1,by simp,Up.refl _ _,.out (zeu H s B i n (by simp only[decide_eq_false_iff_not];omega))⟩
  |[c]=>
   have hlt:=jt hi
   have hb:=wD s i c [] hi
   have hlen:s.data.toList.length=i+1:=by
    have:=congrArg List.length hi
    simp only[List.length_drop,lC,lN] at this;omega
   have a0:decide ((i:Int) < s.data.toList.length)=true:=by simp only[decide_eq_true_eq];omega
   unfold wW
   by_cases hc:c.toNat=34
   ·rw[if_pos hc]
    obtain⟨H',e1,u1⟩:=zbO H B k acc n (by omega) S hk (by omega)
    exact⟨H',1,by simp,u1,.ret (zmT H H' s ⟨⟨acc⟩⟩ B i n hlt (by omega) a0 (by rw[hb];exact neB hc) (by rw[hlen];simp) e1)⟩
   ·rw[if_neg hc]
    obtain⟨H',e1,S1,u1⟩:=zbU H B k acc c n (by omega) S hk (by omega)
    have hi':=wN hi
    have b1:=zkD H H' s B i n hlt (by omega) a0 (by rw[hb];exact zgJ hc) (by rw[hb];exact e1)
    have hend:=ji hi'
    exact⟨H',2,by simp,u1,.on b1 (.out (zeu H' s B (i+1) n (by simp only[decide_eq_false_iff_not];omega)))⟩
  |c::d::r=>
   simp only[lC] at hr hl
   have hlt:=jt hi
   have hb:=wD s i c (d::r) hi
   have hi':=wN hi
   have hlt':=jt hi'
   have hb'':bAt s ((i:Int)+1)=d.toNat:=wD s (i+1) d r hi'
   have a0:decide ((i:Int) < s.data.toList.length)=true:=by simp only[decide_eq_true_eq];omega
   have a2:(((i:Int)+1:Int)==s.data.toList.length)=false:=by simp only[beq_eq_false_iff_ne,ne_eq];omega
   unfold wW
   by_cases hc:c.toNat=34
   ·rw[if_pos hc]
    by_cases hd:d.toNat=34
    ·rw[if_pos hd]
     obtain⟨H1,e1,S1,u1⟩:=zbU H B k acc 34 n (by omega) S hk (by omega)
     obtain⟨H',q,hq,u2,hl2⟩:=ih r (acc++[34]) (i+2) H1 (by omega) (wN hi') S1 (by simp only[lA,lC,lN];omega)
     have b1:=zqd H H1 s B i n hlt (by omega) hlt' a0 (by rw[hb];exact neB hc) a2 (by rw[hb''];exact neB hd) e1
     refine⟨H',q+1,by simp only[lC];omega,u1.trans u2,?_⟩
     split at hl2
     ·exact .on b1 hl2
     ·exact .on b1 hl2
    ·rw[if_neg hd]
     obtain⟨H',e1,u1⟩:=zbO H B k acc n (by omega) S hk (by omega)
     exact⟨H',1,by simp,u1,.ret (zmS H H' s ⟨⟨acc⟩⟩ B i n hlt (by omega) hlt' a0 (by rw[hb];exact neB hc) a2 (by rw[hb''];exact zgJ hd) e1)⟩
   ·rw[if_neg hc]
    obtain⟨H1,e1,S1,u1⟩:=zbU H B k acc c n (by omega) S hk (by omega)
    obtain⟨H',q,hq,u2,hl2⟩:=ih (d::r) (acc++[c]) (i+1) H1 (by simp only[lC];omega) hi' S1 (by simp only[lA,lC,lN];omega)
    have b1:=zkD H H1 s B i n hlt (by omega) a0 (by rw[hb];exact zgJ hc) (by rw[hb];exact e1)
    refine⟨H',q+1,by simp only[lC] at hq ⊢;omega,u1.trans u2,?_⟩
    split at hl2
    ·exact .on b1 hl2
    ·exact .on b1 hl2
end
theorem zqc(s:BA)(h:Heap)(n:Nat)(hn:4≤n)(hs:s.data.toList.length≤4000):
  RD n 219 [.string s] h=some ((match wW (s.data.toList.drop 1) [] 1 with|some (a,e)=>.tuple #[.string ⟨⟨a⟩⟩,.int .i64 (e:Int)]|none=>.tuple #[.string ⟨#[]⟩,.int .i64 0]),h):=by
 obtain⟨m,rfl⟩:=zs_ n
 have S0:BSt ((Heap.fh h).alloc (.row 226 [.pointer none,.slice none 0 0] 0 false)) (Heap.fh h).nx []:=⟨by rw[zt];omega,.inl ⟨rfl,zb _ _⟩⟩
 obtain⟨H',q,hq,u,hl⟩:=zmR s m h.nx (by omega) hs (Heap.fh h).nx (nL_ _) _ (s.data.toList.drop 1) [] 1 _ (nL_ _) rfl S0 (by rw[List.length_drop,lN];omega)
 have hw:h.nx≤H'.wm:=by
  have:=u.wm
  have e:((Heap.fh h).alloc (.row 226 [.pointer none,.slice none 0 0] 0 false)).wm=h.nx:=rfl
  omega
 have hq':q≤18446744073709551616:=by
  rw[List.length_drop] at hq;omega
 split at hl
 ·rename_i e
  rw[e]
  exact(zmQ h H' s m (hl.fact' hq' ⟨by kernel_rfl,by kernel_rfl,by kernel_rfl,trivial⟩)).trans (by rw[zk hw rfl])
 ·rename_i a e he
  rw[he]
  exact(zmP h H' s ⟨⟨a⟩⟩ (e:Int) m (hl.fact' hq' ⟨by kernel_rfl,by kernel_rfl,by kernel_rfl,trivial⟩)).trans (by rw[zk hw rfl])
theorem uv(a b:Bsy):(⟨⟨a⟩⟩:BA)++⟨⟨b⟩⟩=⟨⟨a++b⟩⟩:=by
 have:((⟨⟨a⟩⟩:BA)++⟨⟨b⟩⟩).data=(⟨⟨a++b⟩⟩:BA).data:=by
  rw[ByteArray.data_append];simp
 exact ByteArray.ext this
theorem wx(a:Bsy):(⟨⟨a⟩⟩:BA).size=a.length:=rfl
theorem zhh{s:BA}{i:Nat}{c:UInt8}{r:Bsy}(h:s.data.toList.drop i=c::r):zv s (i:Int) ((i:Int)+1)=⟨⟨[c]⟩⟩:=by
 unfold zv
 have e:((i:Int)+1).toNat - (i:Int).toNat=1:=by omega
 rw[e,Int.toNat_natCast,h];rfl
theorem eqB{x:Nat}(h:x=34):((x:Int)==34)=true:=by subst h;rfl
theorem zoG{x:Nat}(h:¬ x=34):((x:Int)==34)=false:=by
 simp only[beq_eq_false_iff_ne,ne_eq];omega
section
variable (s:BA) (n:Nat) (hs:s.data.toList.length≤4000)
include hs
theorem zmM(B:Nat)(at_:Nat)(H:Heap)(hB:H.get B=some (.row 199 [.int .i64 0,.int .i64 0,.string ⟨#[]⟩,.int .i64 0] 0 false)):∀ (N:Nat) (r acc:Bsy) (i:Nat),r.length≤N→s.data.toList.drop i=r→acc.length+r.length≤4000→at_ < i→
  ∃ q,q≤r.length+1∧match wW r acc i with
   |none=>Loops En (RD n) 51 18446744073709551616 (sub [1,1,0,1,0,0] (zp Tryz.f149)) [(0,.string s),(1,.int .i64 (at_:Int)),(4,.pointer (some ⟨B,0,none⟩)),(6,.string ⟨⟨acc⟩⟩),(7,.int .i64 (i:Int))] H (.exit 0) [(4,.pointer (some ⟨B,0,none⟩))] H q
   |some (a,e)=>Loops En (RD n) 51 18446744073709551616 (sub [1,1,0,1,0,0] (zp Tryz.f149)) [(0,.string s),(1,.int .i64 (at_:Int)),(4,.pointer (some ⟨B,0,none⟩)),(6,.string ⟨⟨acc⟩⟩),(7,.int .i64 (i:Int))] H .ret [(4,.pointer (some ⟨B,0,none⟩)),(5,.int .i64 ((e:Int) - (at_:Int)))]
     (H.put B (.row 199 [.int .i64 2,.int .i64 0,.string ⟨⟨a⟩⟩,.int .i64 (at_:Int)] 0 false)) q:=by
 intro N
 induction N with
 |zero=>
  intro r acc i hr hi hl hat
  have:r=[]:=List.length_eq_zero_iff.1 (by omega)
  subst this
  have:=ji hi
  exact⟨1,by simp,.out (zet H s ⟨⟨acc⟩⟩ B i at_ n (by simp only[decide_eq_false_iff_not];omega))⟩
 |succ N ih=>
  intro r acc i hr hi hl hat
  match r with
  |[]=>
   have:=ji hi
   exact⟨1,by simp,.out (zet H s ⟨⟨acc⟩⟩ B i at_ n (by simp only[decide_eq_false_iff_not];omega))⟩
  |[c]=>
   have hlt:=jt hi
   have hb:=wD s i c [] hi
   have hlen:s.data.toList.length=i+1:=by
    have:=congrArg List.length hi
    simp only[List.length_drop,lC,lN] at this;omega
   have a0:decide ((i:Int) < s.data.toList.length)=true:=by simp only[decide_eq_true_eq];omega
   have hacc:(⟨⟨acc⟩⟩:BA).size < 4611686018427387904:=by rw[wx];omega
   unfold wW
   by_cases hc:c.toNat=34
   ·rw[if_pos hc]
    exact⟨1,by simp,.ret (zmO H s ⟨⟨acc⟩⟩ B i at_ n hlt (by omega) hacc hat hB a0 (by rw[hb];exact neB hc) (by simp only[decide_eq_false_iff_not];omega) rfl)⟩
   ·rw[if_neg hc]
    have hcut:=zhh hi
    have b1:=zkC H s ⟨⟨acc⟩⟩ B i at_ n hlt (by omega) hacc hat (by rw[hcut,wx,wx];simp only[lC,lN] at hl ⊢;omega) a0 (by rw[hb];exact zgJ hc) rfl
    rw[hcut,uv] at b1
    have hend:=ji (wN hi)
    exact⟨2,by simp,.on b1 (.out (zet H s ⟨⟨acc++[c]⟩⟩ B (i+1) at_ n (by simp only[decide_eq_false_iff_not];omega)))⟩
  |c::d::r=>
   simp only[lC] at hr hl
   have hlt:=jt hi
   have hb:=wD s i c (d::r) hi
   have hi':=wN hi
   have hlt':=jt hi'
   have hb'':bAt s ((i:Int)+1)=d.toNat:=wD s (i+1) d r hi'
   have a0:decide ((i:Int) < s.data.toList.length)=true:=by simp only[decide_eq_true_eq];omega
   have a2:decide (((i:Int)+1:Int) < s.data.toList.length)=true:=by simp only[decide_eq_true_eq];omega
   have hacc:(⟨⟨acc⟩⟩:BA).size < 4611686018427387904:=by rw[wx];omega
   unfold wW
   by_cases hc:c.toNat=34
   ·rw[if_pos hc]
    by_cases hd:d.toNat=34
    ·rw[if_pos hd]
     obtain⟨q,hq,hl2⟩:=ih r (acc++[34]) (i+2) (by omega) (wN hi') (by simp only[lA,lC,lN];omega) (by omega)
     have b1:=zqb H s ⟨⟨acc⟩⟩ B i at_ n hlt (by omega) hacc hat hlt' (by rw[wx];show acc.length+1≤_;omega) a0 (by rw[hb];exact neB hc) a2 (by rw[hb''];exact eqB hd)
     rw[show(⟨#[34]⟩:BA)=⟨⟨[34]⟩⟩ from rfl,uv] at b1
     refine⟨q+1,by simp only[lC];omega,?_⟩
     split at hl2
     ·exact .on b1 hl2
     ·exact .on b1 hl2
    ·rw[if_neg hd]
     exact⟨1,by simp,.ret (zmN H s ⟨⟨acc⟩⟩ B i at_ n hlt (by omega) hacc hat hlt' hB a0 (by rw[hb];exact neB hc) a2 (by rw[hb''];exact zoG hd) rfl)⟩
   ·rw[if_neg hc]
    obtain⟨q,hq,hl2⟩:=ih (d::r) (acc++[c]) (i+1) (by simp only[lC];omega) hi' (by simp only[lA,lC,lN];omega) (by omega)
    have hcut:=zhh hi
    have b1:=zkC H s ⟨⟨acc⟩⟩ B i at_ n hlt (by omega) hacc hat (by rw[hcut,wx,wx];simp only[lC,lN];omega) a0 (by rw[hb];exact zgJ hc) rfl
    rw[hcut,uv] at b1
    refine⟨q+1,by simp only[lC] at hq ⊢;omega,?_⟩
    split at hl2
    ·exact .on b1 hl2
    ·exact .on b1 hl2
end
def zgo(kind n:Int)(s:BA)(at_:Int):Value:=.agg #[.int .i64 kind,.int .i64 n,.string s,.int .i64 at_]
def zjI:Value:=zgo 0 0 ⟨#[]⟩ 0
theorem zqa(s:BA)(at_:Nat)(h:Heap)(n:Nat)(hn:1≤n)(hs:s.data.toList.length≤4000)(hat:at_≤4000):
  RD n 149 [.string s,.int .i64 (at_:Int)] h=some ((match wW (s.data.toList.drop (at_+1)) [] (at_+1) with|some (a,e)=>.tuple #[zgo 2 0 ⟨⟨a⟩⟩ (at_:Int),.int .i64 ((e:Int) - (at_:Int))]|none=>.tuple #[zjI,.int .i64 0]),h):=by
 obtain⟨m,rfl⟩:=zs_ n
 obtain⟨q,hq,hl⟩:=zmM s m hs (Heap.fh h).nx at_ ((Heap.fh h).alloc (.row 199 [.int .i64 0,.int .i64 0,.string ⟨#[]⟩,.int .i64 0] 0 false)) (zb _ _) _ (s.data.toList.drop (at_+1)) [] (at_+1) (nL_ _) rfl (by rw[List.length_drop,lN];omega) (by omega)
 have hq':q≤18446744073709551616:=by
  rw[List.length_drop] at hq;omega
 split at hl
 ·rename_i e
  rw[e]
  exact(zmL h s at_ m (by omega) (hl.fact' hq' ⟨by kernel_rfl,by kernel_rfl,by kernel_rfl,by kernel_rfl,by kernel_rfl,trivial⟩)).trans (by rw[zk (by rw[ze,zl];show h.nx≤min h.nx h.nx;omega) rfl];rfl)
 ·rename_i a e he
  rw[he]
  exact(zmK h s ⟨⟨a⟩⟩ at_ ((e:Int) - (at_:Int)) m (by omega) (hl.fact' hq' ⟨by kernel_rfl,by kernel_rfl,by kernel_rfl,by kernel_rfl,by kernel_rfl,trivial⟩)).trans (by rw[zk (by rw[ze,zl];show h.nx≤min h.nx h.nx;omega) rfl];rfl)
noncomputable section
abbrev wR:Vs:=[iv 0,iv 0,.string ⟨#[]⟩,iv 0]
abbrev zsm:Value:=.tuple #[.agg #[iv 0,iv 0,.string ⟨#[]⟩,iv 0],iv 0]
abbrev zsl:Value:=.agg #[iv 0,iv 0,.string ⟨#[]⟩,iv 0]
variable (h:Heap) (s t:BA) (k m:Nat) (v:Int) (n:Nat)
theorem ztI(_h1:0 < s.data.toList.length)(_h2:s.data.toList.length < 4611686018427387904)(_h3:(m:Int)≤s.data.toList.length)(a0:Pu n 196 [.int .u8 (bAt s 0:Int)] (iv (k:Int)) (al h.fh 199 wR))(a1:((k:Int)==2)=true)(a2:Pu n 217 [.string s,.func (.func 218) #[] #[]] (iv (m:Int)) (al h.fh 199 wR))(a3:Pu n 106 [.string (zv s 0 (m:Int)),iv 10,iv 64] (.tuple #[iv v,.nilIface]) (al h.fh 199 wR)):Fn n 197 [.string s] h (.tuple #[.agg #[iv 1,iv v,.string ⟨#[]⟩,iv 0],iv (m:Int)]) (pt (al h.fh 199 wR) h.nx 199 [iv 1,iv v,.string ⟨#[]⟩,iv 0]):=
 fnT (kZ h) [aS 199 wR,yI 9 s 0,yP a0,yT a1,yP a2,cH 9 s (m:Int),yP a3,bF,.w 0 199 0 (.agg #[iv 1,iv v,.string ⟨#[]⟩,iv 0]),.r 0 199 4,.z 1]
theorem zh3(e:Int)(n:Nat)(_h1:0 < s.data.toList.length)(_h2:s.data.toList.length < 4611686018427387904)(a0:Pu n 196 [.int .u8 (bAt s 0:Int)] (iv (k:Int)) (al h.fh 199 wR))(a1:((k:Int)==2)=false)(a2:((k:Int)==4)=true)(a3:Pu n 219 [.string s] (.tuple #[.string t,iv e]) (al h.fh 199 wR)):Fn n 197 [.string s] h (.tuple #[.agg #[iv 2,iv 0,.string t,iv 0],iv e]) (pt (al h.fh 199 wR) h.nx 199 [iv 2,iv 0,.string t,iv 0]):=
 fnT (kZ h) [aS 199 wR,yI 9 s 0,yP a0,yF a1,yT a2,yP a3,.w 0 199 0 (.agg #[iv 2,iv 0,.string t,iv 0]),.r 0 199 4,.z 1]
theorem zqS(_h1:0 < s.data.toList.length)(_h2:s.data.toList.length < 4611686018427387904)(_h3:(m:Int)≤s.data.toList.length)(a0:Pu n 196 [.int .u8 (bAt s 0:Int)] (iv (k:Int)) (al h.fh 199 wR))(a1:((k:Int)==2)=false)(a2:((k:Int)==4)=false)(a3:((k:Int)==3)=true)(a4:Pu n 217 [.string s,.func (.func 220) #[] #[]] (iv (m:Int)) (al h.fh 199 wR))(a5:Pu n 221 [.string (zv s 0 (m:Int))] (.string t) (al h.fh 199 wR)):Fn n 197 [.string s] h (.tuple #[.agg #[iv 3,iv 0,.string t,iv 0],iv (m:Int)]) (pt (al h.fh 199 wR) h.nx 199 [iv 3,iv 0,.string t,iv 0]):=
 fnT (kZ h) [aS 199 wR,yI 9 s 0,yP a0,yF a1,yF a2,yT a3,yP a4,cH 9 s (m:Int),yP a5,.w 0 199 0 (.agg #[iv 3,iv 0,.string t,iv 0]),.r 0 199 4,.z 1]
theorem zqT(_h1:0 < s.data.toList.length)(_h2:s.data.toList.length < 4611686018427387904)(_h3:(m:Int)≤s.data.toList.length)(a0:Pu n 196 [.int .u8 (bAt s 0:Int)] (iv (k:Int)) (al h.fh 199 wR))(a1:((k:Int)==2)=false)(a2:((k:Int)==4)=false)(a3:((k:Int)==3)=false)(a4:((k:Int)==5)=true)(a5:Pu n 222 [.string s] (iv (m:Int)) (al h.fh 199 wR)):Fn n 197 [.string s] h (.tuple #[.agg #[iv 4,iv 0,.string (zv s 0 (m:Int)),iv 0],iv (m:Int)]) (pt (al h.fh 199 wR) h.nx 199 [iv 4,iv 0,.string (zv s 0 (m:Int)),iv 0]):=
 fnT (kZ h) [aS 199 wR,yI 9 s 0,yP a0,yF a1,yF a2,yF a3,yT a4,yP a5,cH 9 s (m:Int),.w 0 199 0 (.agg #[iv 4,iv 0,.string (zv s 0 (m:Int)),iv 0]),.r 0 199 4,.z 1]
theorem zqU(_h1:0 < s.data.toList.length)(_h2:s.data.toList.length < 4611686018427387904)(a0:Pu n 196 [.int .u8 (bAt s 0:Int)] (iv (k:Int)) (al h.fh 199 wR))(a1:((k:Int)==2)=false)(a2:((k:Int)==4)=false)(a3:((k:Int)==3)=false)(a4:((k:Int)==5)=false):Fn n 197 [.string s] h zsm (pt (al h.fh 199 wR) h.nx 199 wR):=
 fnT (kZ h) [aS 199 wR,yI 9 s 0,yP a0,yF a1,yF a2,yF a3,yF a4,.w 0 199 0 zsl,.r 0 199 4,.z 1]
theorem ztJ(_h1:0 < s.data.toList.length)(_h2:s.data.toList.length < 4611686018427387904)(_h3:(m:Int)≤s.data.toList.length)(a0:Pu n 196 [.int .u8 (bAt s 0:Int)] (iv (k:Int)) (al h.fh 199 wR))(a1:((k:Int)==2)=true)(a2:Pu n 217 [.string s,.func (.func 218) #[] #[]] (iv (m:Int)) (al h.fh 199 wR))(a3:RD n 106 [.string (zv s 0 (m:Int)),iv 10,iv 64] (al h.fh 199 wR)=some (.tuple #[iv v,.iface 279 (pv (h.nx+1) 0)],zd 1 (al h.fh 199 wR))):Fn n 197 [.string s] h zsm (pt (zd 1 (al h.fh 199 wR)) h.nx 199 wR):=
 fnT (kZ h) [aS 199 wR,yI 9 s 0,yP a0,yT a1,yP a2,cH 9 s (m:Int),yC a3 (kI (ko (show(zd 1 (al h.fh 199 wR)).get h.nx=_ from(gR gN)))),bT,.w 0 199 0 zsl,.r 0 199 4,.z 1]
end
def qm(acc:Nat):Bsy→Nat
 |[]=>acc
 |c::r=>qm (acc * 10+(c.toNat - 48)) r
theorem zil:∀ (l:Bsy) (acc:Nat),acc≤qm acc l:=by
 intro l
 induction l with
 |nil=>intro acc;exact nL_ _
 |cons c r ih=>intro acc;exact nT (by omega) (ih _)
def dig(b:UInt8):Prop:=48≤b.toNat∧b.toNat≤57
def zi2(n k:Nat):Bool:=
 (k==2)==(Nat.ble 48 n && Nat.ble n 57) &&
  (k==3)==((Nat.ble 97 n && Nat.ble n 122) || (Nat.ble 65 n && Nat.ble n 90)) &&
  (k==1)==Nat.beq n 32 && (k==4)==Nat.beq n 34 &&
  (k==5)==[43,45,42,47,37,94,38,61,60,62,40,41,44,58].contains n
theorem zoh:((List.range 256).all fun n=>zi2 n (kdV (zA (n:Int))))=true:=by kernel_rfl
theorem tabP_facts{n k:Nat}(h:zi2 n k=true):(k=2↔48≤n∧n≤57)∧(k=3↔(97≤n∧n≤122)∨(65≤n∧n≤90))∧(k=1↔n=32)∧(k=4↔n=34)∧(k=5↔n∈[43,45,42,47,37,94,38,61,60,62,40,41,44,58]):=by
 unfold zi2 at h
 rw[bA,bA,bA,bA] at h
 obtain⟨⟨⟨⟨h2,h3⟩,h1⟩,h4⟩,h5⟩:=h
 have h2:=eq_of_beq h2
 have h3:=eq_of_beq h3
 have h1:=eq_of_beq h1
 have h4:=eq_of_beq h4
 have h5:=eq_of_beq h5
 have q:∀ j:Nat,k=j↔(k==j)=true:=fun j=>beq_iff_eq.symm
 have nb:∀ x y:Nat,Nat.beq x y=true↔x=y:=fun x y=>⟨nB_,fun e=>by rw[e];exact Nat.beq_refl _⟩
 refine⟨?_,?_,?_,?_,?_⟩
 ·rw[q 2,h2,bA,Nat.ble_eq,Nat.ble_eq]
 ·rw[q 3,h3,Bool.or_eq_true,bA,bA,Nat.ble_eq,Nat.ble_eq,Nat.ble_eq,Nat.ble_eq]
 ·rw[q 1,h1];exact nb _ _
 ·rw[q 4,h4];exact nb _ _
 ·rw[q 5,h5];exact List.contains_iff_mem
theorem uO(b:UInt8):(kd b=2↔dig b)∧(kd b=3↔(97≤b.toNat∧b.toNat≤122)∨(65≤b.toNat∧b.toNat≤90))∧(kd b=1↔b.toNat=32)∧(kd b=4↔b.toNat=34)∧(kd b=5↔b.toNat∈[43,45,42,47,37,94,38,61,60,62,40,41,44,58]):=by
 have h:zi2 b.toNat (kdV (zA (b.toNat:Int)))=true:=ve zoh b.toNat (vu b)
 unfold kd
 revert h
 generalize kdV (zA (b.toNat:Int))=k
 intro h
 exact tabP_facts h
theorem isD_dig(b:UInt8):isD b=true↔dig b:=by
 unfold isD;rw[beq_iff_eq];exact(uO b).1
theorem zll:∀ (l:Bsy) (acc:Nat),(∀ c∈l,dig c)→Lib.parseUintM 18446744073709551615 acc l=if qm acc l≤18446744073709551615 then .ok (qm acc l) else if l=[] then .ok acc else .range:=by
 intro l
 induction l with
 |nil=>
  intro acc _
  show Lib.NumEnd.ok acc=_
  by_cases h:qm acc []≤18446744073709551615
  ·rw[if_pos h];rfl
  ·rw[if_neg h,if_pos rfl]
 |cons c r ih=>
  intro acc hl
  have hc:=hl c (by simp)
  unfold dig at hc
  have hge:=zil r (acc * 10+(c.toNat - 48))
  have e:qm acc (c::r)=qm (acc * 10+(c.toNat - 48)) r:=rfl
  rw[e]
  simp only[Lib.parseUintM,if_pos hc]
  rw[if_neg (show ¬ (c::r)=[] by simp)]
  split
  ·rw[if_neg (by omega)]
  ·split
   ·rw[if_neg (by omega)]
   ·rename_i hM
    rw[ih _ (fun x hx=>hl x (by simp[hx]))]
    by_cases hA:qm (acc * 10+(c.toNat - 48)) r≤18446744073709551615
    ·rw[if_pos hA,if_pos hA]
    ·rw[if_neg hA,if_neg hA]
     by_cases hr:r=[]
     ·subst hr
      have:qm (acc * 10+(c.toNat - 48)) []=acc * 10+(c.toNat - 48):=rfl
      omega
     ·rw[if_neg hr]
def uL(l:Bsy):Option Nat:=if qm 0 l≤9223372036854775807 then some (qm 0 l) else none
theorem zln{l:Bsy}(hl:∀ c∈l,dig c)(hne:l≠[]):Lib.parseIntB 64 l=match uL l with|some v=>.ok (v:Int)|none=>.range:=by
 match l,hne with
 |c::r,_=>
  have hc:=hl c (by simp)
  unfold dig at hc
  unfold Lib.parseIntB
  have h1:¬ (c.toNat=43∨c.toNat=45):=by omega
  have h2:¬ c.toNat=45:=by omega
  have hh:(if c.toNat=43∨c.toNat=45 then r else c::r)=c::r:=if_neg h1
  simp only[hh]
  simp only[h2,if_false,not_false_eq_true,true_and,false_and]
  unfold Lib.parseUintB
  rw[if_neg (by simp),show(2 ^ 64 - 1:Nat)=18446744073709551615 from rfl,zll _ _ hl]
  unfold uL
  by_cases e:qm 0 (c::r)≤9223372036854775807
  ·rw[if_pos e,if_pos (by omega)]
   simp only
   rw[if_neg (by show ¬ 9223372036854775808≤_;omega)]
  ·rw[if_neg e]
   by_cases e2:qm 0 (c::r)≤18446744073709551615
   ·rw[if_pos e2]
    simp only
    rw[if_pos (by show 9223372036854775808≤_;omega)]
   ·rw[if_neg e2,if_neg (by simp)]
def jZ(l:Bsy):Nat:=if l.take 2=[60,62]∨l.take 2=[60,61]∨l.take 2=[62,61] then 2 else 1
theorem zbf{l:Bsy}{a b:UInt8}(h:l.take 2=[a,b]):1 < l.length:=by
 have:=congrArg List.length h
 rw[List.length_take] at this;simp at this;omega
theorem zhr(s:BA):vP s= .int .i64 (jZ s.data.toList:Int):=by
 unfold vP jZ
 simp only[bqS]
 have e:(zv s 0 2).data.toList=s.data.toList.take 2:=by unfold zv;rfl
 rw[e]
 by_cases h1:s.data.toList.take 2=[60,62]
 ·have:=zbf h1
  have c:decide ((s.data.toList.length:Int)>1)=true:=by simp only[decide_eq_true_eq];omega
  rw[c,h1];rfl
 ·by_cases h2:s.data.toList.take 2=[60,61]
  ·have:=zbf h2
   have c:decide ((s.data.toList.length:Int)>1)=true:=by simp only[decide_eq_true_eq];omega
   rw[c,h2];rfl
  ·by_cases h3:s.data.toList.take 2=[62,61]
   ·have:=zbf h3
    have c:decide ((s.data.toList.length:Int)>1)=true:=by simp only[decide_eq_true_eq];omega
    rw[c,h3];rfl
   ·have b1:(s.data.toList.take 2==[60,62])=false:=by simpa using h1
    have b2:(s.data.toList.take 2==[60,61])=false:=by simpa using h2
    have b3:(s.data.toList.take 2==[62,61])=false:=by simpa using h3
    rw[b1,b2,b3,if_neg (by simp[h1,h2,h3])]
    cases decide ((s.data.toList.length:Int)>1) <;>rfl
def zD(l:Bsy):Nat×Nat×Bsy×Nat:=
 match l with
 |[]=>(0,0,[],0)
 |c::r=>
  if kd c=2 then(match uL (l.takeWhile isD) with|some v=>(1,v,[],(l.takeWhile isD).length)|none=>(0,0,[],0))
  else if kd c=4 then(match wW r [] 1 with|some (a,e)=>(2,0,a,e)|none=>(2,0,[],0))
  else if kd c=3 then(3,0,(l.takeWhile isW).map upB,(l.takeWhile isW).length)
  else if kd c=5 then(4,0,l.take (jZ l),jZ l)
  else(0,0,[],0)
theorem zdi:orcD 106=some vH:=by kernel_rfl
theorem zuf{m:Int}{h:Heap}(G:Gl m h):h.get 4=some (.row 84 [.iface 309 (.pointer (some ⟨12,0,none⟩))] 0 true)∧h.get 5=some (.row 84 [.iface 309 (.pointer (some ⟨13,0,none⟩))] 0 true):=
 ⟨(G.get 4 (by omega)).trans (by rw[vJ];rfl),(G.get 5 (by omega)).trans (by rw[vJ];rfl)⟩
theorem zdU{m:Int}{h:Heap}(G:Gl m h)(l:Bsy)(n:Nat)(hl:∀ c∈l,dig c)(hne:l≠[])(hs:l.length≤4000):
  match uL l with
  |some v=>RD (n+1) 106 [.string ⟨⟨l⟩⟩,.int .i64 10,.int .i64 64] h=some (.tuple #[.int .i64 (v:Int),.nilIface],h)
  |none=>∃ v,RD (n+1) 106 [.string ⟨⟨l⟩⟩,.int .i64 10,.int .i64 64] h=some (.tuple #[.int .i64 v,.iface 279 (.pointer (some ⟨h.nx,0,none⟩))],zd 1 h):=by
 have hp:=zln hl hne
 have hb:Nat.ble (⟨⟨l⟩⟩:BA).size 281474976710656=true:=by rw[Nat.ble_eq,wx];omega
 obtain⟨_,g5⟩:=zuf G
 cases hv:uL l with
 |some v=>
  rw[hv] at hp
  show zB En orcD (drawn En) 18446744073709551616 (n+1) 106 _ h=_
  simp only[zB,zdi,vH,hb,cond_true,hp]
 |none=>
  rw[hv] at hp
  refine⟨Lib.intSat 64 l,?_⟩
  show zB En orcD (drawn En) 18446744073709551616 (n+1) 106 _ h=_
  simp only[zB,zdi,vH,hb,cond_true,hp,g5]
theorem zj7(s:BA)(m:Nat):zv s 0 (m:Int)=⟨⟨s.data.toList.take m⟩⟩:=by
 unfold zv
 simp
theorem uF{α:Type}(p:α→Bool):∀ l:List α,l.take (l.takeWhile p).length=l.takeWhile p:=by
 intro l
 induction l with
 |nil=>rfl
 |cons c l ih=>
  rw[List.takeWhile_cons]
  split
  ·rw[lC,List.take_succ_cons,ih]
  ·rfl
theorem zqP{m:Int}(s:BA)(h:Heap)(n:Nat)(hn:5≤n)(G:Gl m h)(h0:0 < s.data.toList.length)(hs:s.data.toList.length≤4000):
  RD n 197 [.string s] h=some (.tuple #[zgo ((zD s.data.toList).1:Int) ((zD s.data.toList).2.1:Int) ⟨⟨(zD s.data.toList).2.2.1⟩⟩ 0,.int .i64 ((zD s.data.toList).2.2.2:Int)],h):=by
 obtain⟨k,rfl⟩:=zs_ n
 obtain⟨j,rfl⟩:=zs_ k
 generalize hg:(Heap.fh h).alloc (.row 199 [.int .i64 0,.int .i64 0,.string ⟨#[]⟩,.int .i64 0] 0 false)=g
 have Gg:Gl m g:=by rw[← hg];exact G.fh.alloc _
 have hw:∀ o:AObj,h.nx≤(g.put (Heap.fh h).nx o).wm:=by
  intro o
  rw[ze,← hg,zl]
  show h.nx≤min h.nx h.nx
  omega
 have hw2:∀ o:AObj,h.nx≤((zd 1 g).put (Heap.fh h).nx o).wm:=by
  intro o
  rw[ze,zJ,← hg,zl]
  show h.nx≤min h.nx h.nx
  omega
 match hl:s.data.toList with
 |[]=>rw[hl] at h0;simp at h0
 |c::r=>
  have hb:bAt s 0=c.toNat:=wD s 0 c r (by rw[hl];rfl)
  have a0:RD (j+1) 196 [.int .u8 (bAt s 0:Int)] g=some (.int .i64 (kd c:Int),g):=by rw[hb];exact zd2 c g (j+1) (by omega)
  have hs2:s.data.toList.length < 4611686018427387904:=by omega
  have hd:=zjc s g (j+1) (by omega) hs
  have hw':=zi9 s g (j+1) (by omega) hs
  have htd:(s.data.toList.takeWhile isD).length≤s.data.toList.length:=(List.takeWhile_prefix _).length_le
  have htw:(s.data.toList.takeWhile isW).length≤s.data.toList.length:=(List.takeWhile_prefix _).length_le
  have kb:∀ q:Nat,(((kd c:Int):Int)==(q:Int))=decide (kd c=q):=by
   intro q
   rw[zco];rfl
  have k2:(((kd c:Int):Int)==2)=decide (kd c=2):=kb 2
  have k3:(((kd c:Int):Int)==3)=decide (kd c=3):=kb 3
  have k4:(((kd c:Int):Int)==4)=decide (kd c=4):=kb 4
  have k5:(((kd c:Int):Int)==5)=decide (kd c=5):=kb 5
  rw[← hl]
  unfold zD
  rw[hl]
  simp only
  rw[← hl]
  by_cases c2:kd c=2
  ·rw[if_pos c2]
   rw[dT c2] at k2
   have hne:s.data.toList.takeWhile isD≠[]:=by
    rw[hl,List.takeWhile_cons,if_pos (by unfold isD;simpa using c2)];simp
   have hdig:∀ x∈s.data.toList.takeWhile isD,dig x:=fun x hx=>(isD_dig x).1 (List.all_eq_true.1 List.all_takeWhile x hx)
   have hp:=zdU Gg (s.data.toList.takeWhile isD) j hdig hne (by omega)
   have hcut:zv s 0 ((s.data.toList.takeWhile isD).length:Int)=⟨⟨s.data.toList.takeWhile isD⟩⟩:=by rw[zj7,uF]
   rw[← hcut] at hp
   cases hv:uL (s.data.toList.takeWhile isD) with
   |some v=>
    rw[hv] at hp
    subst hg
    exact(ztI h s (kd c) _ (v:Int) (j+1) h0 hs2 (by omega) a0 k2 hd hp).trans ((congrArg some (zk (hw _) rfl)).trans (by rfl))
   |none=>
    rw[hv] at hp
    obtain⟨v,hp⟩:=hp
    subst hg
    exact(ztJ h s (kd c) _ v (j+1) h0 hs2 (by omega) a0 k2 hd hp).trans ((congrArg some (zk (hw2 _) rfl)).trans (by rfl))
  ·rw[if_neg c2]
   rw[dF c2] at k2
   by_cases c4:kd c=4
   ·rw[if_pos c4]
    rw[dT c4] at k4
    have ht:=zqc s g (j+1) (by omega) hs
    have hdr:s.data.toList.drop 1=r:=by rw[hl];rfl
    rw[hdr] at ht
    cases hv:wW r [] 1 with
    |some p=>
     obtain⟨a,e⟩:=p
     rw[hv] at ht
     subst hg
     exact(zh3 h s ⟨⟨a⟩⟩ (kd c) (e:Int) (j+1) h0 hs2 a0 k2 k4 ht).trans ((congrArg some (zk (hw _) rfl)).trans (by rfl))
    |none=>
     rw[hv] at ht
     subst hg
     exact(zh3 h s ⟨#[]⟩ (kd c) 0 (j+1) h0 hs2 a0 k2 k4 ht).trans ((congrArg some (zk (hw _) rfl)).trans (by rfl))
   ·rw[if_neg c4]
    rw[dF c4] at k4
    by_cases c3:kd c=3
    ·rw[if_pos c3]
     rw[dT c3] at k3
     have hcut:zv s 0 ((s.data.toList.takeWhile isW).length:Int)=⟨⟨s.data.toList.takeWhile isW⟩⟩:=by rw[zj7,uF]
     have hu:=zp7 (zv s 0 ((s.data.toList.takeWhile isW).length:Int)) g (j+1) (by omega) (by rw[hcut];show(s.data.toList.takeWhile isW).length≤4000;omega)
     subst hg
     refine(zqS h s _ (kd c) _ (j+1) h0 hs2 (by omega) a0 k2 k4 k3 hw' hu).trans ?_
     exact(congrArg some (zk (hw _) rfl)).trans (by rw[hcut];rfl)
    ·rw[if_neg c3]
     rw[dF c3] at k3
     by_cases c5:kd c=5
     ·rw[if_pos c5]
      rw[dT c5] at k5
      have hsg:RD (j+1) 222 [.string s] g=some (.int .i64 (jZ s.data.toList:Int),g):=by
       rw[← zhr];exact zkO s g (j+1) (by omega)
      have hle:(jZ s.data.toList:Int)≤s.data.toList.length:=by
       unfold jZ
       split
       ·rename_i h
        rcases h with h|h|h
        ·have:=zbf h;omega
        ·have:=zbf h;omega
        ·have:=zbf h;omega
       ·omega
      subst hg
      exact(zqT h s (kd c) _ (j+1) h0 hs2 hle a0 k2 k4 k3 k5 hsg).trans ((congrArg some (zk (hw _) rfl)).trans (by rw[zj7];rfl))
     ·rw[if_neg c5]
      rw[dF c5] at k5
      subst hg
      exact(zqU h s (kd c) (j+1) h0 hs2 a0 k2 k4 k3 k5).trans ((congrArg some (zk (hw _) rfl)).trans (by rfl))
noncomputable section
abbrev vV:Vs:=[iv 0,iv 0,.string ⟨#[]⟩,iv 0]
abbrev zfB(s:BA)(at_ B i u:Nat):List (Nat×Value):=[(0,.string s),(1,iv (at_:Int)),(4,pv B 0),(6,iv (i:Int)),(7,.int .u64 (u:Int))]
abbrev zpw(s:BA)(at_:Nat)(h:Heap):List (Nat×Value):=[(0,.string s),(1,iv (at_:Int)),(4,pv h.nx 0),(5,iv 0),(9,iv (at_:Int)),(6,iv (at_:Int)),(7,.int .u64 0)]
abbrev ziU(h:Heap):Heap:=pt (al h.fh 199 vV) h.nx 199 vV
def rdig_v(c:Int):Value:=
 bif decide ((c:Int)≥48) then(bif decide ((c:Int)≤57) then(.bool true) else
  (.bool false)) else
 (.bool false)
variable (c:Int) (h:Heap) (s:BA) (B i at_ u n:Nat)
theorem znl(hn:1≤n):RD n 145 [.int .u8 c] h=some (rdig_v c,h):=by
 obtain⟨m,rfl⟩:=zs_ n
 cases b0:decide ((c:Int)≥48)
 ·rw[rdig_v,b0]
  exact fpV (kZ h) [yF b0,.z 0]
 ·cases b1:decide ((c:Int)≤57)
  ·rw[rdig_v,b0,b1]
   exact fpV (kZ h) [yT b0,yF b1,.z 0]
  ·rw[rdig_v,b0,b1]
   exact fpV (kZ h) [yT b0,yT b1,.z 0]
def rlet_v(c:Int):Value:=
 bif decide ((c:Int)≥97) then(bif decide ((c:Int)≤122) then(.bool true) else
  bif decide ((c:Int)≥65) then(bif decide ((c:Int)≤90) then(.bool true) else
  (.bool false)) else
  (.bool false)) else
 bif decide ((c:Int)≥65) then(bif decide ((c:Int)≤90) then(.bool true) else
  (.bool false)) else
 (.bool false)
theorem znj(hn:1≤n):RD n 147 [.int .u8 c] h=some (rlet_v c,h):=by
 obtain⟨m,rfl⟩:=zs_ n
 cases b0:decide ((c:Int)≥97)
 ·cases b1:decide ((c:Int)≥65)
  ·rw[rlet_v,b0,b1]
   exact fpV (kZ h) [yF b0,yF b1,.z 0]
  ·cases b2:decide ((c:Int)≤90)
   ·rw[rlet_v,b0,b1,b2]
    exact fpV (kZ h) [yF b0,yT b1,yF b2,.z 0]
   ·rw[rlet_v,b0,b1,b2]
    exact fpV (kZ h) [yF b0,yT b1,yT b2,.z 0]
 ·cases b1:decide ((c:Int)≤122)
  ·cases b2:decide ((c:Int)≥65)
   ·rw[rlet_v,b0,b1,b2]
    exact fpV (kZ h) [yT b0,yF b1,yF b2,.z 0]
   ·cases b3:decide ((c:Int)≤90)
    ·rw[rlet_v,b0,b1,b2,b3]
     exact fpV (kZ h) [yT b0,yF b1,yT b2,yF b3,.z 0]
    ·rw[rlet_v,b0,b1,b2,b3]
     exact fpV (kZ h) [yT b0,yF b1,yT b2,yT b3,.z 0]
  ·rw[rlet_v,b0,b1]
   exact fpV (kZ h) [yT b0,yT b1,.z 0]
theorem zgm{x:Int}(h1:0≤x)(h2:x≤18446744073709551615):IntKind.u64.wrap x=x:=by
 simp[IntKind.wrap,IntKind.bits,IntKind.signed] at *
 omega
theorem jv{x:Int}(h1:0≤x)(h2:x≤18446744073709551615):some (Value.int .u64 (IntKind.u64.wrap x))=some (.int .u64 x):=by rw[zgm h1 h2]
theorem zhY{x y:Int}(h1:0≤x)(h2:0 < y)(h3:x≤18446744073709551615):wF .quo .u64 x y=some (.int .u64 (x / y)):=by
 unfold wF
 simp only
 rw[if_neg (by omega),Int.tdiv_eq_ediv_of_nonneg h1,zgm (Int.ediv_nonneg h1 (by omega)) (by
  have:=Int.ediv_le_self y h1
  omega)]
theorem zwM(c n:Nat)(_h1:i < s.data.toList.length)(_h2:s.data.toList.length < 4611686018427387904)(_h3:u≤9223372036854775807)(_h4:48≤c∧c≤57)(_h5:bAt s (i:Int)=c)(_h6:(u:Int) * 10+((bAt s (i:Int):Int) - 48)≤9223372036854775807)(a0:decide ((i:Int) < s.data.toList.length)=true)(a1:Pu n 145 [.int .u8 (bAt s (i:Int):Int)] (.bool true) h)(a2:wF .quo .u64 (9223372036854775807 - ((bAt s (i:Int):Int) - 48)) 10=some (.int .u64 ((9223372036854775807 - ((bAt s (i:Int):Int) - 48)) / 10)))(a3:decide ((u:Int)>((9223372036854775807 - ((bAt s (i:Int):Int) - 48)) / 10))=false)(a4:Value.int .u64 (((u:Int) * 10)+((bAt s (i:Int):Int) - 48))=Value.int .u64 ((u:Int) * 10+((bAt s (i:Int):Int) - 48))):Bd n 44 [1,1,1,0,0,0] Tryz.f146 (zfB s at_ B i u) h .normal [(0,.string s),(1,iv (at_:Int)),(4,pv B 0),(6,iv ((i:Int)+1)),(7,.int .u64 ((u:Int) * 10+((bAt s (i:Int):Int) - 48)))] h:=
 bdF (kZ h) [yT a0,yI 9 s (i:Int),yP a1,yI 9 s (i:Int),yU ((bAt s (i:Int):Int) - 48),.x [.v (.int .u64 ((bAt s (i:Int):Int) - 48))] fun _=>[⟨some (Value.int .u64 (IntKind.u64.wrap ((bAt s (i:Int):Int) - 48)))=some (.int .u64 ((bAt s (i:Int):Int) - 48)),jv (by omega) (by omega)⟩],.x [.v (.int .u64 (9223372036854775807 - ((bAt s (i:Int):Int) - 48)))] fun _=>[⟨some (Value.int .u64 (IntKind.u64.wrap (9223372036854775807 - ((bAt s (i:Int):Int) - 48))))=some (.int .u64 (9223372036854775807 - ((bAt s (i:Int):Int) - 48))),jv (by omega) (by omega)⟩],yE a2,yF a3,.x [.v (.int .u64 ((u:Int) * 10))] fun _=>[⟨some (Value.int .u64 (IntKind.u64.wrap ((u:Int) * 10)))=some (.int .u64 ((u:Int) * 10)),jv (by omega) (by omega)⟩],.x [.v (.int .u64 (((u:Int) * 10)+((bAt s (i:Int):Int) - 48)))] fun _=>[⟨some (Value.int .u64 (IntKind.u64.wrap (((u:Int) * 10)+((bAt s (i:Int):Int) - 48))))=some (.int .u64 (((u:Int) * 10)+((bAt s (i:Int):Int) - 48))),jv (by omega) (by omega)⟩],yW ((i:Int)+1),.x [] fun _=>[⟨Value.string s=Value.string s,rfl⟩],.x [] fun _=>[⟨iv (at_:Int)=iv (at_:Int),rfl⟩],.x [] fun _=>[⟨pv B 0=pv B 0,rfl⟩],.x [] fun _=>[⟨iv ((i:Int)+1)=iv ((i:Int)+1),rfl⟩],yH a4]
theorem ztW(c n:Nat)(_h1:i < s.data.toList.length)(_h2:s.data.toList.length < 4611686018427387904)(_h3:u≤9223372036854775807)(_h4:48≤c∧c≤57)(_h5:bAt s (i:Int)=c)(hB:h.get B=some (.row 199 vV 0 false))(a0:decide ((i:Int) < s.data.toList.length)=true)(a1:Pu n 145 [.int .u8 (bAt s (i:Int):Int)] (.bool true) h)(a2:wF .quo .u64 (9223372036854775807 - ((bAt s (i:Int):Int) - 48)) 10=some (.int .u64 ((9223372036854775807 - ((bAt s (i:Int):Int) - 48)) / 10)))(a3:decide ((u:Int)>((9223372036854775807 - ((bAt s (i:Int):Int) - 48)) / 10))=true):Bd n 44 [1,1,1,0,0,0] Tryz.f146 (zfB s at_ B i u) h .ret [(4,pv B 0),(5,iv 0)] (pt h B 199 vV):=
 bdF (kI (ko hB)) [yT a0,yI 9 s (i:Int),yP a1,yI 9 s (i:Int),yU ((bAt s (i:Int):Int) - 48),.x [.v (.int .u64 ((bAt s (i:Int):Int) - 48))] fun _=>[⟨some (Value.int .u64 (IntKind.u64.wrap ((bAt s (i:Int):Int) - 48)))=some (.int .u64 ((bAt s (i:Int):Int) - 48)),jv (by omega) (by omega)⟩],.x [.v (.int .u64 (9223372036854775807 - ((bAt s (i:Int):Int) - 48)))] fun _=>[⟨some (Value.int .u64 (IntKind.u64.wrap (9223372036854775807 - ((bAt s (i:Int):Int) - 48))))=some (.int .u64 (9223372036854775807 - ((bAt s (i:Int):Int) - 48))),jv (by omega) (by omega)⟩],yE a2,yT a3,.w 0 199 0 (.agg #[iv 0,iv 0,.string ⟨#[]⟩,iv 0]),.z 0]
theorem ztV(a0:decide ((i:Int) < s.data.toList.length)=false):Bd n 44 [1,1,1,0,0,0] Tryz.f146 (zfB s at_ B i u) h (.exit 0) [(1,iv (at_:Int)),(4,pv B 0),(6,iv (i:Int)),(7,.int .u64 (u:Int))] h:=
 bdF (kZ h) [yF a0,.z 0]
theorem ztU(_h1:i < s.data.toList.length)(a0:decide ((i:Int) < s.data.toList.length)=true)(a1:Pu n 145 [.int .u8 (bAt s (i:Int):Int)] (.bool false) h):Bd n 44 [1,1,1,0,0,0] Tryz.f146 (zfB s at_ B i u) h (.exit 0) [(1,iv (at_:Int)),(4,pv B 0),(6,iv (i:Int)),(7,.int .u64 (u:Int))] h:=
 bdF (kZ h) [yT a0,yI 9 s (i:Int),yP a1,.z 0]
theorem ztX(a0:Lf n 44 [1,1,1,0,0,0] Tryz.f146 (zpw s at_ h) (al h.fh 199 vV) .ret [(4,pv h.nx 0),(5,iv 0)] (ziU h)):Fn n 146 [.string s,iv (at_:Int)] h (.tuple #[.agg #[iv 0,iv 0,.string ⟨#[]⟩,iv 0],iv 0]) (ziU h):=
 fnT (kZ h) [aS 199 vV,yS a0 (kI (ko (show(ziU h).get h.nx=_ from(gP (show h.nx < h.nx+1 by omega))))),.r 0 199 4,.z 1]
theorem zqZ(i u n:Nat)(_h1:at_≤i)(_h2:i < 4611686018427387904)(_h3:u≤9223372036854775807)(a0:Lf n 44 [1,1,1,0,0,0] Tryz.f146 (zpw s at_ h) (al h.fh 199 vV) (.exit 0) [(1,iv (at_:Int)),(4,pv h.nx 0),(6,iv (i:Int)),(7,.int .u64 (u:Int))] (al h.fh 199 vV)):Fn n 146 [.string s,iv (at_:Int)] h (.tuple #[.agg #[iv 1,iv (u:Int),.string ⟨#[]⟩,iv (at_:Int)],iv ((i:Int) - (at_:Int))]) (pt (al h.fh 199 vV) h.nx 199 [iv 1,iv (u:Int),.string ⟨#[]⟩,iv (at_:Int)]):=
 fnT (kZ h) [aS 199 vV,yS a0 (kI (ko (show(al h.fh 199 vV).get h.nx=_ from gN))),yW (u:Int),yW ((i:Int) - (at_:Int)),.w 0 199 0 (.agg #[iv 1,iv (u:Int),.string ⟨#[]⟩,iv (at_:Int)]),.r 0 199 4,.z 1]
end
end Go.PanE
