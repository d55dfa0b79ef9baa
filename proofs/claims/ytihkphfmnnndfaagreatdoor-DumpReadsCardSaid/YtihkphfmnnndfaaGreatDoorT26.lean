/-
 Part 26 of the proof of Rows.DumpReadsCardSaid: The reference's next: the same tokens as lex.one's, each with its place.
 The reference's next: its law.
 Cut, in both texts: paths printed by sx.py (m8.py).
 Cut, in both texts: what they make of a text.
 No conditions.
-/
import Derived.Test.YtihkphfmnnndfaaGreatDoorT25
namespace Go.PanE
open Go.Proofs
theorem sgn1_all:((List.range 256).all fun n=>sgnL.any (fun t=>t.data.toList==[UInt8.ofNat n])==(kdV (kind_v (n:Int))==5))=true:=by kernel_rfl
theorem sgn1(c:UInt8):sgnL.any (fun t=>t.data.toList==[c])=decide (kd c=5):=by
 have h:=eq_of_beq (all_range sgn1_all c.toNat (byte_lt c))
 rw[UInt8.ofNat_toNat] at h
 rw[h]
 unfold kd
 generalize kdV (kind_v (c.toNat:Int))=k
 rfl
theorem sgn2(a b:UInt8):sgnL.any (fun t=>t.data.toList==[a,b])=decide ([a,b]=[60,62]∨[a,b]=[60,61]∨[a,b]=[62,61]):=by
 rw[Bool.eq_iff_iff,decide_eq_true_eq]
 simp only[sgnL,List.any_cons,List.any_nil,Bool.or_false,Bool.or_eq_true,beq_iff_eq]
 simp only[List.cons.injEq,and_true,reduceCtorEq,and_false,false_or,or_false]
 constructor
 ·rintro(⟨rfl,rfl⟩|⟨rfl,rfl⟩|⟨rfl,rfl⟩) <;>simp
 ·rintro(⟨rfl,rfl⟩|⟨rfl,rfl⟩|⟨rfl,rfl⟩) <;>simp
theorem find_of_any{w:List UInt8}(h:sgnL.any (fun t=>t.data.toList==w)=true):sgnL.find? (fun t=>t.data.toList==w)=some ⟨⟨w⟩⟩:=by
 cases e:sgnL.find? (fun t=>t.data.toList==w) with
 |none=>
  rw[List.find?_eq_none] at e
  rw[List.any_eq_true] at h
  obtain⟨t,h1,h2⟩:=h
  exact absurd h2 (e t h1)
 |some t=>
  have:=List.find?_some e
  have:t.data.toList=w:=eq_of_beq this
  subst this;rfl
theorem find_of_not{w:List UInt8}(h:sgnL.any (fun t=>t.data.toList==w)=false):sgnL.find? (fun t=>t.data.toList==w)=none:=by
 rw[List.find?_eq_none]
 intro t ht hp
 have:sgnL.any (fun t=>t.data.toList==w)=true:=List.any_eq_true.2 ⟨t,ht,hp⟩
 rw[h] at this;simp at this
/-- The signs in new memory. -/
theorem signs_new(h:Heap)(n:Nat)(hn:1≤n):∃ h',RD n 150 [] h=some (.slice (some ⟨h.nx,0,none⟩) 17 17,h')∧h'.get h.nx=some (.row 9 (sgnL.map Value.string) 0 false)∧Up h.nx h h'∧h'.nx=h.nx+1∧h'.wm=min h.wm h.nx:=by
 obtain⟨m,rfl⟩:∃ m,n=m+1:=⟨n - 1,by omega⟩
 have hp:=nsigns h m
 unfold Fn at hp
 have hlt:Nat.blt h.nx h.nx=false:=by
  cases e:Nat.blt h.nx h.nx with
  |false=>rfl
  |true=>rw[Nat.blt_eq] at e;omega
 have hl:lowV h.nx 5 (.slice (some ⟨h.nx,0,none⟩) 17 17)=false:=hlt
 rw[finish_new hl] at hp
 refine⟨_,hp,Heap.get_new (Heap.fresh h) _,⟨by show h.nx≤h.nx+1;omega,by show min h.nx h.wm≤min h.wm h.nx;omega,fun b hb=>Heap.get_old (Heap.fresh h) _ hb⟩,rfl,rfl⟩
/-- What next tells: the token at a place, and how long it is. -/
def nextV(l:List UInt8)(at_:Nat):Value:=
 if(oneR l).2.2.2=0 then .tuple #[noTok,.int .i64 0]
 else .tuple #[tokV ((oneR l).1:Int) ((oneR l).2.1:Int) ⟨⟨(oneR l).2.2.1⟩⟩ (at_:Int),.int .i64 ((oneR l).2.2.2:Int)]
theorem signN_two{a b:UInt8}{r:List UInt8}:signN (a::b::r)=if([a,b]=[60,62]∨[a,b]=[60,61]∨[a,b]=[62,61]) then 2 else 1:=rfl
section
variable (s:ByteArray) (n at_ B:Nat) (hn:1≤n) (hs:s.data.toList.length≤4000)
include hn hs
/-- A round of the search for a sign of k bytes. -/
theorem so_round(k:Nat)(hk:1≤k∧k≤2)(H:Heap)(hB:H.get B=some (.row 199 [.int .i64 0,.int .i64 0,.string ⟨#[]⟩,.int .i64 0] 0 false))(hlen:at_+k≤s.data.toList.length)(hat:at_≤4000):
  ∃ H',H'.get B=H.get B∧H.nx≤H'.nx∧min B H.wm≤H'.wm∧(match sgnL.find? (fun t=>t.data.toList==(s.data.toList.drop at_).take k) with
   |none=>BodyTo En (RD n) 98 5000 (sub [1,1,1,0,1,0,0] (bodyOf Tryz.f109)) [(0,.string s),(1,.int .i64 (at_:Int)),(4,.pointer (some ⟨B,0,none⟩)),(8,.int .i64 ((k:Nat):Int))] H .normal [(0,.string s),(1,.int .i64 (at_:Int)),(4,.pointer (some ⟨B,0,none⟩)),(8,.int .i64 (((k:Nat):Int) - 1))] H'
   |some t=>BodyTo En (RD n) 98 5000 (sub [1,1,1,0,1,0,0] (bodyOf Tryz.f109)) [(0,.string s),(1,.int .i64 (at_:Int)),(4,.pointer (some ⟨B,0,none⟩)),(8,.int .i64 ((k:Nat):Int))] H .ret [(4,.pointer (some ⟨B,0,none⟩)),(5,.int .i64 ((k:Nat):Int))] (H'.put B (.row 199 [.int .i64 4,.int .i64 0,.string t,.int .i64 (at_:Int)] 0 false))):=by
 obtain⟨H',e1,g1,u1,nx1,w1⟩:=signs_new H n hn
 have hBl:=Heap.lt_of_get hB
 have gB:H'.get B=H.get B:=u1.get B hBl
 obtain⟨q,hq,hl⟩:=sign_loop s n at_ k B H.nx H' hlen hs (gB.trans hB) g1 sgnL 0 rfl
 have hq':q≤5000:=by
  have:sgnL.length=17:=rfl
  omega
 have a0:decide ((((k:Nat):Int):Int)≥1)=true:=by simp only[decide_eq_true_eq];omega
 have a1:decide (((at_:Int)+((k:Nat):Int):Int)>s.data.toList.length)=false:=by simp only[decide_eq_false_iff_not];omega
 refine⟨H',gB,by omega,by omega,?_⟩
 split at hl
 ·rename_i e
  rw[e]
  exact so_none H H' s B H.nx at_ k n hk (by omega) a0 a1 e1 (hl.fact' hq' ⟨by kernel_rfl,by kernel_rfl,by kernel_rfl,by kernel_rfl,by kernel_rfl,by kernel_rfl,trivial⟩)
 ·rename_i t e
  rw[e]
  exact so_hit H H' _ s B H.nx at_ k n hk (by omega) a0 a1 e1 (hl.fact' hq' ⟨by kernel_rfl,by kernel_rfl,by kernel_rfl,by kernel_rfl,by kernel_rfl,by kernel_rfl,trivial⟩)
/-- The search for a sign. -/
theorem so_loop(H:Heap)(hB:H.get B=some (.row 199 [.int .i64 0,.int .i64 0,.string ⟨#[]⟩,.int .i64 0] 0 false))(hw:B≤H.wm)(c:UInt8)(r:List UInt8)(hl:s.data.toList.drop at_=c::r)(k2:kd c≠2)(k3:kd c≠3)(k4:kd c≠4):
  ∃ H' q,q≤3∧B≤H'.wm∧B < H'.nx∧(if kd c=5 then
    H'.get B=some (.row 199 [.int .i64 4,.int .i64 0,.string ⟨⟨(c::r).take (signN (c::r))⟩⟩,.int .i64 (at_:Int)] 0 false)∧
    Loops En (RD n) 98 5000 (sub [1,1,1,0,1,0,0] (bodyOf Tryz.f109)) [(0,.string s),(1,.int .i64 (at_:Int)),(4,.pointer (some ⟨B,0,none⟩)),(8,.int .i64 ((2:Nat):Int))] H .ret [(4,.pointer (some ⟨B,0,none⟩)),(5,.int .i64 ((signN (c::r):Nat):Int))] H' q
   else H'.get B=some (.row 199 [.int .i64 0,.int .i64 0,.string ⟨#[]⟩,.int .i64 0] 0 false)∧
    Loops En (RD n) 98 5000 (sub [1,1,1,0,1,0,0] (bodyOf Tryz.f109)) [(0,.string s),(1,.int .i64 (at_:Int)),(4,.pointer (some ⟨B,0,none⟩)),(8,.int .i64 ((2:Nat):Int))] H (.exit 3) [(4,.pointer (some ⟨B,0,none⟩))] H' q):=by
 have hlt:=drop_lt hl
 have hlen:s.data.toList.length=at_+1+r.length:=by
  have:=congrArg List.length hl
  rw[List.length_drop,List.length_cons] at this;omega
 have one:∀ H1:Heap,H1.get B=H.get B→B≤H1.wm→∃ H' q,q≤2∧B≤H'.wm∧B < H'.nx∧(if kd c=5 then
    H'.get B=some (.row 199 [.int .i64 4,.int .i64 0,.string ⟨⟨[c]⟩⟩,.int .i64 (at_:Int)] 0 false)∧
    Loops En (RD n) 98 5000 (sub [1,1,1,0,1,0,0] (bodyOf Tryz.f109)) [(0,.string s),(1,.int .i64 (at_:Int)),(4,.pointer (some ⟨B,0,none⟩)),(8,.int .i64 ((1:Nat):Int))] H1 .ret [(4,.pointer (some ⟨B,0,none⟩)),(5,.int .i64 ((1:Nat):Int))] H' q
   else H'.get B=some (.row 199 [.int .i64 0,.int .i64 0,.string ⟨#[]⟩,.int .i64 0] 0 false)∧
    Loops En (RD n) 98 5000 (sub [1,1,1,0,1,0,0] (bodyOf Tryz.f109)) [(0,.string s),(1,.int .i64 (at_:Int)),(4,.pointer (some ⟨B,0,none⟩)),(8,.int .i64 ((1:Nat):Int))] H1 (.exit 3) [(4,.pointer (some ⟨B,0,none⟩))] H' q):=by
  intro H1 g1 w1
  obtain⟨H',gB,nx1,w2,hr⟩:=so_round s n at_ B hn hs 1 ⟨by omega,by omega⟩ H1 (g1.trans hB) (by omega) (by omega)
  have hBl:B < H'.nx:=Nat.lt_of_lt_of_le (Heap.lt_of_get (g1.trans hB)) nx1
  have ht:(s.data.toList.drop at_).take 1=[c]:=by rw[hl];rfl
  rw[ht] at hr
  by_cases h5:kd c=5
  ·rw[find_of_any (by rw[sgn1];exact decide_eq_true h5)] at hr
   refine⟨H'.put B (.row 199 [.int .i64 4,.int .i64 0,.string ⟨⟨[c]⟩⟩,.int .i64 (at_:Int)] 0 false),1,by omega,?_,?_,?_⟩
   ·rw[Heap.wm_put];omega
   ·rw[Heap.nx_put];exact hBl
   ·rw[if_pos h5]
    exact⟨Heap.get_put_same _ _ _ hBl,.ret hr⟩
  ·rw[find_of_not (by rw[sgn1];exact decide_eq_false h5)] at hr
   refine⟨H',2,by omega,by omega,hBl,?_⟩
   rw[if_neg h5]
   exact⟨gB.trans (g1.trans hB),.on hr (.out (so_end H' s B at_ n))⟩
 match r,hl,hlen with
 |[],hl,hlen=>
  obtain⟨H',q,hq,w,nx,h⟩:=one H rfl hw
  have b1:=so_skip H s B at_ 2 n ⟨by omega,by omega⟩ (by omega) (by rfl) (by simp only[decide_eq_true_eq];simp only[List.length_nil] at hlen;omega)
  refine⟨H',q+1,by omega,w,nx,?_⟩
  have hsn:signN [c]=1:=by
   unfold signN
   simp
  by_cases h5:kd c=5
  ·rw[if_pos h5] at h ⊢
   rw[hsn]
   exact⟨h.1,.on b1 h.2⟩
  ·rw[if_neg h5] at h ⊢
   exact⟨h.1,.on b1 h.2⟩
 |d::r,hl,hlen=>
  rw[List.length_cons] at hlen
  obtain⟨H1,gB,nx1,w2,hr⟩:=so_round s n at_ B hn hs 2 ⟨by omega,by omega⟩ H hB (by omega) (by omega)
  have hBl:B < H1.nx:=Nat.lt_of_lt_of_le (Heap.lt_of_get hB) nx1
  have ht:(s.data.toList.drop at_).take 2=[c,d]:=by rw[hl];rfl
  rw[ht] at hr
  rw[signN_two]
  by_cases h2:[c,d]=[60,62]∨[c,d]=[60,61]∨[c,d]=[62,61]
  ·rw[if_pos h2]
   rw[find_of_any (by rw[sgn2];exact decide_eq_true h2)] at hr
   have h5:kd c=5:=by
    rw[(kd_facts c).2.2.2.2]
    rcases h2 with h|h|h
    ·obtain⟨rfl,_⟩:=List.cons.inj h;decide
    ·obtain⟨rfl,_⟩:=List.cons.inj h;decide
    ·obtain⟨rfl,_⟩:=List.cons.inj h;decide
   refine⟨H1.put B (.row 199 [.int .i64 4,.int .i64 0,.string ⟨⟨[c,d]⟩⟩,.int .i64 (at_:Int)] 0 false),1,by omega,?_,?_,?_⟩
   ·rw[Heap.wm_put];omega
   ·rw[Heap.nx_put];exact hBl
   ·rw[if_pos h5]
    exact⟨Heap.get_put_same _ _ _ hBl,.ret hr⟩
  ·rw[if_neg h2]
   rw[find_of_not (by rw[sgn2];exact decide_eq_false h2)] at hr
   obtain⟨H',q,hq,w,nx,h⟩:=one H1 gB (by omega)
   refine⟨H',q+1,by omega,w,nx,?_⟩
   by_cases h5:kd c=5
   ·rw[if_pos h5] at h ⊢
    exact⟨h.1,.on hr h.2⟩
   ·rw[if_neg h5] at h ⊢
    exact⟨h.1,.on hr h.2⟩
end
end Go.PanE
namespace Go.PanE
open Go.Proofs
theorem textM_shift(j:Nat):∀ (N:Nat) (r acc:List UInt8) (i:Nat),r.length≤N→textM r acc (i+j)=(textM r acc i).map fun p=>(p.1,p.2+j):=by
 intro N
 induction N with
 |zero=>
  intro r acc i hr
  have:r=[]:=List.length_eq_zero_iff.1 (by omega)
  subst this;rfl
 |succ N ih=>
  intro r acc i hr
  match r with
  |[]=>rfl
  |[c]=>
   unfold textM
   split
   ·simp only[Option.map_some,Option.some.injEq,Prod.mk.injEq,true_and];omega
   ·rfl
  |c::d::r=>
   simp only[List.length_cons] at hr
   unfold textM
   split
   ·split
    ·rw[show i+j+2=i+2+j by omega];exact ih r _ _ (by omega)
    ·simp only[Option.map_some,Option.some.injEq,Prod.mk.injEq,true_and];omega
   ·rw[show i+j+1=i+1+j by omega];exact ih (d::r) _ _ (by simp only[List.length_cons];omega)
theorem isD_kd{c:UInt8}{k:Nat}(h:kd c=k):isD c=decide (k=2):=by unfold isD;rw[h];rfl
theorem isL_kd{c:UInt8}{k:Nat}(h:kd c=k):isL c=decide (k=3):=by unfold isL;rw[h];rfl
theorem next_law(s:ByteArray)(at_:Nat)(h:Heap)(n:Nat)(hn:4≤n)(hs:s.data.toList.length≤4000)(hat:at_ < s.data.toList.length):
  RD n 109 [.string s,.int .i64 ((at_:Nat):Int)] h=some (nextV (s.data.toList.drop at_) at_,h):=by
 obtain⟨m,rfl⟩:∃ m,n=m+1:=⟨n - 1,by omega⟩
 generalize hg:(Heap.fresh h).alloc (.row 199 [.int .i64 0,.int .i64 0,.string ⟨#[]⟩,.int .i64 0] 0 false)=g
 have gB:g.get (Heap.fresh h).nx=some (.row 199 [.int .i64 0,.int .i64 0,.string ⟨#[]⟩,.int .i64 0] 0 false):=by rw[← hg];exact Heap.get_new _ _
 have gw:g.wm=h.nx:=by rw[← hg];rfl
 have hN:(Heap.fresh h).nx=h.nx:=rfl
 have hw:∀ o:AObj,h.nx≤(g.put (Heap.fresh h).nx o).wm:=by
  intro o
  rw[Heap.wm_put,gw,hN];omega
 match hl:s.data.toList.drop at_ with
 |[]=>
  have:=drop_end hl
  omega
 |c::r=>
  have hb:=bAt_drop s at_ c r hl
  have a0:=rdig_byte c g m (by omega)
  have a1:=rlet_byte c g m (by omega)
  rw[← hb] at a0 a1
  have hs2:s.data.toList.length < 4611686018427387904:=by omega
  have hlen:s.data.toList.length=at_+1+r.length:=by
   have:=congrArg List.length hl
   rw[List.length_drop,List.length_cons] at this;omega
  unfold nextV oneR
  simp only
  by_cases c2:kd c=2
  ·rw[if_pos c2]
   rw[isD_kd c2] at a0
   have hne:(c::r).takeWhile isD≠[]:=by
    rw[List.takeWhile_cons,if_pos (by rw[isD_kd c2];rfl)];simp
   have hpos:((c::r).takeWhile isD).length≠0:=by simpa using hne
   have hnum:=num_law s at_ g m (by omega) hs (by omega)
   rw[hl] at hnum
   cases hv:numM ((c::r).takeWhile isD) with
   |some v=>
    rw[hv] at hnum
    simp only
    rw[if_neg hpos]
    subst hg
    exact(nx_dig h s ⟨#[]⟩ at_ 1 (v:Int) (at_:Int) _ m hat hs2 a0 hnum).trans ((congrArg some (finish_low (hw _) rfl)).trans (by rfl))
   |none=>
    rw[hv] at hnum
    simp only
    first|rw[if_pos trivial]|rw[if_pos rfl]
    subst hg
    exact(nx_dig h s ⟨#[]⟩ at_ 0 0 0 0 m hat hs2 a0 hnum).trans ((congrArg some (finish_low (hw _) rfl)).trans (by rfl))
  ·rw[if_neg c2]
   have e0:isD c=false:=by unfold isD;simpa using c2
   rw[e0] at a0
   by_cases c4:kd c=4
   ·rw[if_pos c4]
    rw[isL_kd c4] at a1
    have h34:c.toNat=34:=(kd_facts c).2.2.2.1.1 c4
    have ht:=txB_law s at_ g m (by omega) hs (by omega)
    rw[drop_next hl] at ht
    have hsh:=textM_shift at_ r.length r [] 1 (Nat.le_refl _)
    rw[Nat.add_comm 1 at_] at hsh
    rw[hsh] at ht
    cases hv:textM r [] 1 with
    |some p=>
     obtain⟨a,e⟩:=p
     rw[hv] at ht
     simp only[Option.map_some] at ht ⊢
     have hbd:=textM_bound r.length r [] 1 a e (Nat.le_refl _) hv
     rw[if_neg (by omega)]
     have he:(((e+at_:Nat):Int) - (at_:Int))=(e:Int):=by omega
     rw[he] at ht
     subst hg
     exact(nx_text h s ⟨⟨a⟩⟩ at_ 2 0 (at_:Int) (e:Int) m hat hs2 a0 a1 (by rw[hb];exact eqB h34) ht).trans ((congrArg some (finish_low (hw _) rfl)).trans (by rfl))
    |none=>
     rw[hv] at ht
     simp only[Option.map_none] at ht ⊢
     first|rw[if_pos trivial]|rw[if_pos rfl]
     subst hg
     exact(nx_text h s ⟨#[]⟩ at_ 0 0 0 0 m hat hs2 a0 a1 (by rw[hb];exact eqB h34) ht).trans ((congrArg some (finish_low (hw _) rfl)).trans (by rfl))
   ·rw[if_neg c4]
    have h34:¬ c.toNat=34:=fun h=>c4 ((kd_facts c).2.2.2.1.2 h)
    by_cases c3:kd c=3
    ·rw[if_pos c3]
     rw[isL_kd c3] at a1
     have hne:(c::r).takeWhile isW≠[]:=by
      rw[List.takeWhile_cons,if_pos (by unfold isW;rw[c3];rfl)];simp
     have hpos:((c::r).takeWhile isW).length≠0:=by simpa using hne
     rw[if_neg hpos]
     have htw:((c::r).takeWhile isW).length≤(c::r).length:=(List.takeWhile_prefix _).length_le
     rw[List.length_cons] at htw
     have hloop:=nword_loop s m (by omega) hs g at_ (Heap.fresh h).nx (c::r) at_ hl
     have hcut:cutS s ((at_:Nat):Int) ((at_+((c::r).takeWhile isW).length:Nat):Int)=⟨⟨(c::r).takeWhile isW⟩⟩:=by
      unfold cutS
      rw[Int.toNat_natCast,Int.toNat_natCast,hl,show at_+((c::r).takeWhile isW).length - at_=((c::r).takeWhile isW).length by omega,takeWhile_take]
     have hu:=upB_law (cutS s ((at_:Nat):Int) ((at_+((c::r).takeWhile isW).length:Nat):Int)) g m (by omega) (by rw[hcut];show((c::r).takeWhile isW).length≤4000;omega)
     subst hg
     refine(nx_word h s _ at_ _ m hat hs2 ⟨by omega,by omega⟩ a0 a1 (hloop.fact' (by omega) ⟨by kernel_rfl,by kernel_rfl,by kernel_rfl,by kernel_rfl,trivial⟩) hu).trans ?_
     refine(congrArg some (finish_low (hw _) rfl)).trans ?_
     rw[hcut]
     have:((at_+((c::r).takeWhile isW).length:Nat):Int) - ((at_:Nat):Int)=(((c::r).takeWhile isW).length:Int):=by omega
     rw[this];rfl
    ·rw[if_neg c3]
     have e1:isL c=false:=by unfold isL;simpa using c3
     rw[e1] at a1
     obtain⟨H',q,hq,w',nx',hso⟩:=so_loop s m at_ (Heap.fresh h).nx (by omega) hs g gB (by rw[gw,hN];omega) c r hl c2 c3 c4
     by_cases c5:kd c=5
     ·rw[if_pos c5] at hso ⊢
      have hsn:signN (c::r)≠0:=by unfold signN;split <;>omega
      rw[if_neg hsn]
      subst hg
      refine(nx_hit h H' s _ at_ (signN (c::r)) m hat hs2 hso.1 a0 a1 (by rw[hb];exact eqB' h34) (hso.2.fact' (by omega) ⟨by kernel_rfl,by kernel_rfl,by kernel_rfl,by kernel_rfl,trivial⟩)).trans ?_
      rw[finish_low (by omega) rfl];rfl
     ·rw[if_neg c5] at hso ⊢
      first|rw[if_pos trivial]|rw[if_pos rfl]
      subst hg
      refine(nx_none h H' s at_ m hat hs2 hso.1 nx' a0 a1 (by rw[hb];exact eqB' h34) (hso.2.fact' (by omega) ⟨by kernel_rfl,by kernel_rfl,by kernel_rfl,by kernel_rfl,trivial⟩)).trans ?_
      rw[finish_low (by rw[Heap.wm_put];omega) rfl];rfl
end Go.PanE
namespace Go.PanE
open Go.Proofs
noncomputable section
abbrev x16_1(s:ByteArray):List (Nat×Value):=[(0,.string s),(2,.slice none 0 0),(3,iv 0),(4,iv 0),(9,.string s),(10,iv s.data.toList.length),(11,.bool false),(5,.slice none 0 0),(6,iv 0)]
abbrev x16_2:List Value:=[iv 0,iv 0,.string ⟨#[]⟩,iv 0]
abbrev x16_3(k0 n0:Nat)(t:ByteArray)(at_:Nat):List Value:=[iv (k0:Int),iv (n0:Int),.string t,iv (at_:Int)]
abbrev x16_4(s:ByteArray)(at_:Nat):List (Nat×Value):=[(0,.string s),(5,.slice none 0 0),(6,iv (at_:Int))]
abbrev x16_5(s:ByteArray)(b k at_:Nat):List (Nat×Value):=[(0,.string s),(5,sv b 0 k k),(6,iv (at_:Int))]
abbrev x16_6(at_:Nat):List (Nat×Value):=[(2,.slice none 0 0),(3,iv (at_:Int)),(4,iv 12)]
abbrev x16_7(s:ByteArray)(at_:Nat):List Value:=[.string (cutS s (at_:Int) s.data.toList.length)]
abbrev x16_8(k0 n0:Nat)(t:ByteArray):Value:=.agg #[iv (k0:Int),iv (n0:Int),.string t,iv 0]
abbrev x16_9(h:Heap)(k0 n0:Nat)(t:ByteArray):Heap:=pt (al h 199 x16_2) h.nx 199 [iv (k0:Int),iv (n0:Int),.string t,iv 0]
theorem cuA_tok0(h h2:Heap)(s t:ByteArray)(at_ k0 n0 len_:Nat)(kk n:Nat)(_h1:at_ < s.data.toList.length)(_h2:s.data.toList.length < 4611686018427387904)(_h3:len_≤4611686018427387904)(a0:decide (((at_:Int):Int) < s.data.toList.length)=true)(a1:Pu n 196 [.int .u8 (bAt s (at_:Int):Int)] (iv (kk:Int)) h)(a2:(((kk:Int):Int)==1)=false)(a3:Pu n 197 (x16_7 s at_) (.tuple #[.agg #[iv (k0:Int),iv (n0:Int),.string t,iv 0],iv (len_:Int)]) h)(a4:(((len_:Int):Int)==0)=false)(a5:appendA En (al (pt (x16_9 h k0 n0 t) h.nx 199 (x16_3 k0 n0 t at_)) 199 (x16_3 k0 n0 t at_)) #[155,155] (.slice none 0 0) (sv (h.nx+1) 0 1 1)=some (sv (h.nx+2) 0 1 1,h2)):Bd n 43 [1,1,1,0,1,0,0] Tryz.f175 (x16_4 s at_) h .normal [(0,.string s),(5,sv (h.nx+2) 0 1 1),(6,iv ((at_:Int)+(len_:Int)))] h2:=
 bdF (kZ h) [yT a0,yI 9 s (at_:Int),yP a1,yF a2,cL 9 s (at_:Int),yP a3,aS 199 x16_2,.w 0 199 0 (x16_8 k0 n0 t),yF a4,.w 0 3 3 (iv (at_:Int)),.g 0 199 0 4,aS 199 (x16_3 k0 n0 t at_),yC a5 (kZ h2),yW ((at_:Int)+(len_:Int)),.z 0]
theorem cuA_sp0(h:Heap)(s:ByteArray)(at_ kk n:Nat)(_h1:at_ < s.data.toList.length)(_h2:s.data.toList.length < 4611686018427387904)(a0:decide (((at_:Int):Int) < s.data.toList.length)=true)(a1:Pu n 196 [.int .u8 (bAt s (at_:Int):Int)] (iv (kk:Int)) h)(a2:(((kk:Int):Int)==1)=true):Bd n 43 [1,1,1,0,1,0,0] Tryz.f175 (x16_4 s at_) h .normal [(0,.string s),(5,.slice none 0 0),(6,iv ((at_:Int)+1))] h:=
 bdF (kZ h) [yT a0,yI 9 s (at_:Int),yP a1,yT a2,yW ((at_:Int)+1),.z 0]
theorem cuA_bad0(h:Heap)(s t:ByteArray)(at_ kk k0 n0 n:Nat)(_h1:at_ < s.data.toList.length)(_h2:s.data.toList.length < 4611686018427387904)(a0:decide (((at_:Int):Int) < s.data.toList.length)=true)(a1:Pu n 196 [.int .u8 (bAt s (at_:Int):Int)] (iv (kk:Int)) h)(a2:(((kk:Int):Int)==1)=false)(a3:Pu n 197 (x16_7 s at_) (.tuple #[.agg #[iv (k0:Int),iv (n0:Int),.string t,iv 0],iv 0]) h):Bd n 43 [1,1,1,0,1,0,0] Tryz.f175 (x16_4 s at_) h .ret (x16_6 at_) (x16_9 h k0 n0 t):=
 bdF (kZ h) [yT a0,yI 9 s (at_:Int),yP a1,yF a2,cL 9 s (at_:Int),yP a3,aS 199 x16_2,.w 0 199 0 (x16_8 k0 n0 t),bT,.z 0]
theorem cuA_end0(h:Heap)(s:ByteArray)(at_ n:Nat)(a0:decide (((at_:Int):Int) < s.data.toList.length)=false):Bd n 43 [1,1,1,0,1,0,0] Tryz.f175 (x16_4 s at_) h (.exit 0) [(5,.slice none 0 0)] h:=
 bdF (kZ h) [yF a0,.z 0]
theorem cuA_tok1(h h2:Heap)(s t:ByteArray)(at_ k0 n0 len_ b k:Nat)(kk n:Nat)(_h1:at_ < s.data.toList.length)(_h2:s.data.toList.length < 4611686018427387904)(_h3:len_≤4611686018427387904)(a0:decide (((at_:Int):Int) < s.data.toList.length)=true)(a1:Pu n 196 [.int .u8 (bAt s (at_:Int):Int)] (iv (kk:Int)) h)(a2:(((kk:Int):Int)==1)=false)(a3:Pu n 197 (x16_7 s at_) (.tuple #[.agg #[iv (k0:Int),iv (n0:Int),.string t,iv 0],iv (len_:Int)]) h)(a4:(((len_:Int):Int)==0)=false)(a5:appendA En (al (pt (x16_9 h k0 n0 t) h.nx 199 (x16_3 k0 n0 t at_)) 199 (x16_3 k0 n0 t at_)) #[155,155] (sv b 0 k k) (sv (h.nx+1) 0 1 1)=some (sv (h.nx+2) 0 (k+1) (k+1),h2)):Bd n 43 [1,1,1,0,1,0,0] Tryz.f175 (x16_5 s b k at_) h .normal [(0,.string s),(5,sv (h.nx+2) 0 (k+1) (k+1)),(6,iv ((at_:Int)+(len_:Int)))] h2:=
 bdF (kZ h) [yT a0,yI 9 s (at_:Int),yP a1,yF a2,cL 9 s (at_:Int),yP a3,aS 199 x16_2,.w 0 199 0 (x16_8 k0 n0 t),yF a4,.w 0 3 3 (iv (at_:Int)),.g 0 199 0 4,aS 199 (x16_3 k0 n0 t at_),yC a5 (kZ h2),yW ((at_:Int)+(len_:Int)),.z 0]
theorem cuA_sp1(h:Heap)(s:ByteArray)(at_ kk b k n:Nat)(_h1:at_ < s.data.toList.length)(_h2:s.data.toList.length < 4611686018427387904)(a0:decide (((at_:Int):Int) < s.data.toList.length)=true)(a1:Pu n 196 [.int .u8 (bAt s (at_:Int):Int)] (iv (kk:Int)) h)(a2:(((kk:Int):Int)==1)=true):Bd n 43 [1,1,1,0,1,0,0] Tryz.f175 (x16_5 s b k at_) h .normal [(0,.string s),(5,sv b 0 k k),(6,iv ((at_:Int)+1))] h:=
 bdF (kZ h) [yT a0,yI 9 s (at_:Int),yP a1,yT a2,yW ((at_:Int)+1),.z 0]
theorem cuA_bad1(h:Heap)(s t:ByteArray)(at_ kk b k k0 n0 n:Nat)(_h1:at_ < s.data.toList.length)(_h2:s.data.toList.length < 4611686018427387904)(a0:decide (((at_:Int):Int) < s.data.toList.length)=true)(a1:Pu n 196 [.int .u8 (bAt s (at_:Int):Int)] (iv (kk:Int)) h)(a2:(((kk:Int):Int)==1)=false)(a3:Pu n 197 (x16_7 s at_) (.tuple #[.agg #[iv (k0:Int),iv (n0:Int),.string t,iv 0],iv 0]) h):Bd n 43 [1,1,1,0,1,0,0] Tryz.f175 (x16_5 s b k at_) h .ret (x16_6 at_) (x16_9 h k0 n0 t):=
 bdF (kZ h) [yT a0,yI 9 s (at_:Int),yP a1,yF a2,cL 9 s (at_:Int),yP a3,aS 199 x16_2,.w 0 199 0 (x16_8 k0 n0 t),bT,.z 0]
theorem cuA_end1(h:Heap)(s:ByteArray)(at_ b k n:Nat)(a0:decide (((at_:Int):Int) < s.data.toList.length)=false):Bd n 43 [1,1,1,0,1,0,0] Tryz.f175 (x16_5 s b k at_) h (.exit 0) [(5,sv b 0 k k)] h:=
 bdF (kZ h) [yF a0,.z 0]
theorem cuA_long(h:Heap)(s:ByteArray)(n:Nat)(a0:decide ((s.data.toList.length:Int)>300)=true):Fn n 175 [.string s] h (.tuple #[.slice none 0 0,iv 0,iv 2]) h.fresh:=
 fnT (kZ h) [yT a0,.z 0]
theorem cuA_ok0(h h2:Heap)(s:ByteArray)(n:Nat)(a0:decide ((s.data.toList.length:Int)>300)=false)(a1:Lf n 43 [1,1,1,0,1,0,0] Tryz.f175 (x16_1 s) h.fresh (.exit 0) [(5,.slice none 0 0)] h2):Fn n 175 [.string s] h (.tuple #[.slice none 0 0,iv 0,iv 0]) h2:=
 fnT (kZ h) [yF a0,yS a1 (kZ h2),.z 0]
theorem cuA_ok1(h h2:Heap)(s:ByteArray)(b k n:Nat)(a0:decide ((s.data.toList.length:Int)>300)=false)(a1:Lf n 43 [1,1,1,0,1,0,0] Tryz.f175 (x16_1 s) h.fresh (.exit 0) [(5,sv b 0 k k)] h2):Fn n 175 [.string s] h (.tuple #[sv b 0 k k,iv 0,iv 0]) h2:=
 fnT (kZ h) [yF a0,yS a1 (kZ h2),.z 0]
theorem cuA_bad(h h2:Heap)(s:ByteArray)(e:Int)(n:Nat)(a0:decide ((s.data.toList.length:Int)>300)=false)(a1:Lf n 43 [1,1,1,0,1,0,0] Tryz.f175 (x16_1 s) h.fresh .ret [(2,.slice none 0 0),(3,iv e),(4,iv 12)] h2):Fn n 175 [.string s] h (.tuple #[.slice none 0 0,iv e,iv 12]) h2:=
 fnT (kZ h) [yF a0,yS a1 (kZ h2),.z 0]
theorem cuB_tok0(h h2:Heap)(s t:ByteArray)(at_ k0 n0 len_:Nat)(n:Nat)(_h1:at_ < s.data.toList.length)(_h2:s.data.toList.length < 4611686018427387904)(_h3:len_≤4611686018427387904)(a0:decide (((at_:Int):Int) < s.data.toList.length)=true)(a1:(((bAt s (at_:Int):Int):Int)==32)=false)(a2:Pu n 109 [.string s,iv (at_:Int)] (.tuple #[.agg #[iv (k0:Int),iv (n0:Int),.string t,iv (at_:Int)],iv (len_:Int)]) h)(a3:(((len_:Int):Int)==0)=false)(a4:appendA En (al (pt (al h 199 x16_2) h.nx 199 (x16_3 k0 n0 t at_)) 199 (x16_3 k0 n0 t at_)) #[155,155] (.slice none 0 0) (sv (h.nx+1) 0 1 1)=some (sv (h.nx+2) 0 1 1,h2)):Bd n 39 [1,1,1,0,1,0,0] Tryz.f77 (x16_4 s at_) h .normal [(0,.string s),(5,sv (h.nx+2) 0 1 1),(6,iv ((at_:Int)+(len_:Int)))] h2:=
 bdF (kZ h) [yT a0,yI 9 s (at_:Int),yF a1,yP a2,aS 199 x16_2,.w 0 199 0 (.agg #[iv (k0:Int),iv (n0:Int),.string t,iv (at_:Int)]),yF a3,.g 0 199 0 4,aS 199 (x16_3 k0 n0 t at_),yC a4 (kZ h2),yW ((at_:Int)+(len_:Int)),.z 0]
theorem cuB_sp0(h:Heap)(s:ByteArray)(at_ n:Nat)(_h1:at_ < s.data.toList.length)(_h2:s.data.toList.length < 4611686018427387904)(a0:decide (((at_:Int):Int) < s.data.toList.length)=true)(a1:(((bAt s (at_:Int):Int):Int)==32)=true):Bd n 39 [1,1,1,0,1,0,0] Tryz.f77 (x16_4 s at_) h .normal [(0,.string s),(5,.slice none 0 0),(6,iv ((at_:Int)+1))] h:=
 bdF (kZ h) [yT a0,yI 9 s (at_:Int),yT a1,yW ((at_:Int)+1),.z 0]
theorem cuB_bad0(h:Heap)(s t:ByteArray)(at_ k0 n0 a0_ n:Nat)(_h1:at_ < s.data.toList.length)(_h2:s.data.toList.length < 4611686018427387904)(a0:decide (((at_:Int):Int) < s.data.toList.length)=true)(a1:(((bAt s (at_:Int):Int):Int)==32)=false)(a2:Pu n 109 [.string s,iv (at_:Int)] (.tuple #[.agg #[iv (k0:Int),iv (n0:Int),.string t,iv (a0_:Int)],iv 0]) h):Bd n 39 [1,1,1,0,1,0,0] Tryz.f77 (x16_4 s at_) h .ret (x16_6 at_) (pt (al h 199 x16_2) h.nx 199 [iv (k0:Int),iv (n0:Int),.string t,iv (a0_:Int)]):=
 bdF (kZ h) [yT a0,yI 9 s (at_:Int),yF a1,yP a2,aS 199 x16_2,.w 0 199 0 (.agg #[iv (k0:Int),iv (n0:Int),.string t,iv (a0_:Int)]),bT,.z 0]
theorem cuB_end0(h:Heap)(s:ByteArray)(at_ n:Nat)(a0:decide (((at_:Int):Int) < s.data.toList.length)=false):Bd n 39 [1,1,1,0,1,0,0] Tryz.f77 (x16_4 s at_) h (.exit 0) [(5,.slice none 0 0)] h:=
 bdF (kZ h) [yF a0,.z 0]
theorem cuB_tok1(h h2:Heap)(s t:ByteArray)(at_ k0 n0 len_ b k:Nat)(n:Nat)(_h1:at_ < s.data.toList.length)(_h2:s.data.toList.length < 4611686018427387904)(_h3:len_≤4611686018427387904)(a0:decide (((at_:Int):Int) < s.data.toList.length)=true)(a1:(((bAt s (at_:Int):Int):Int)==32)=false)(a2:Pu n 109 [.string s,iv (at_:Int)] (.tuple #[.agg #[iv (k0:Int),iv (n0:Int),.string t,iv (at_:Int)],iv (len_:Int)]) h)(a3:(((len_:Int):Int)==0)=false)(a4:appendA En (al (pt (al h 199 x16_2) h.nx 199 (x16_3 k0 n0 t at_)) 199 (x16_3 k0 n0 t at_)) #[155,155] (sv b 0 k k) (sv (h.nx+1) 0 1 1)=some (sv (h.nx+2) 0 (k+1) (k+1),h2)):Bd n 39 [1,1,1,0,1,0,0] Tryz.f77 (x16_5 s b k at_) h .normal [(0,.string s),(5,sv (h.nx+2) 0 (k+1) (k+1)),(6,iv ((at_:Int)+(len_:Int)))] h2:=
 bdF (kZ h) [yT a0,yI 9 s (at_:Int),yF a1,yP a2,aS 199 x16_2,.w 0 199 0 (.agg #[iv (k0:Int),iv (n0:Int),.string t,iv (at_:Int)]),yF a3,.g 0 199 0 4,aS 199 (x16_3 k0 n0 t at_),yC a4 (kZ h2),yW ((at_:Int)+(len_:Int)),.z 0]
theorem cuB_sp1(h:Heap)(s:ByteArray)(at_ b k n:Nat)(_h1:at_ < s.data.toList.length)(_h2:s.data.toList.length < 4611686018427387904)(a0:decide (((at_:Int):Int) < s.data.toList.length)=true)(a1:(((bAt s (at_:Int):Int):Int)==32)=true):Bd n 39 [1,1,1,0,1,0,0] Tryz.f77 (x16_5 s b k at_) h .normal [(0,.string s),(5,sv b 0 k k),(6,iv ((at_:Int)+1))] h:=
 bdF (kZ h) [yT a0,yI 9 s (at_:Int),yT a1,yW ((at_:Int)+1),.z 0]
theorem cuB_bad1(h:Heap)(s t:ByteArray)(at_ b k k0 n0 a0_ n:Nat)(_h1:at_ < s.data.toList.length)(_h2:s.data.toList.length < 4611686018427387904)(a0:decide (((at_:Int):Int) < s.data.toList.length)=true)(a1:(((bAt s (at_:Int):Int):Int)==32)=false)(a2:Pu n 109 [.string s,iv (at_:Int)] (.tuple #[.agg #[iv (k0:Int),iv (n0:Int),.string t,iv (a0_:Int)],iv 0]) h):Bd n 39 [1,1,1,0,1,0,0] Tryz.f77 (x16_5 s b k at_) h .ret (x16_6 at_) (pt (al h 199 x16_2) h.nx 199 [iv (k0:Int),iv (n0:Int),.string t,iv (a0_:Int)]):=
 bdF (kZ h) [yT a0,yI 9 s (at_:Int),yF a1,yP a2,aS 199 x16_2,.w 0 199 0 (.agg #[iv (k0:Int),iv (n0:Int),.string t,iv (a0_:Int)]),bT,.z 0]
theorem cuB_end1(h:Heap)(s:ByteArray)(at_ b k n:Nat)(a0:decide (((at_:Int):Int) < s.data.toList.length)=false):Bd n 39 [1,1,1,0,1,0,0] Tryz.f77 (x16_5 s b k at_) h (.exit 0) [(5,sv b 0 k k)] h:=
 bdF (kZ h) [yF a0,.z 0]
theorem cuB_long(h:Heap)(s:ByteArray)(n:Nat)(a0:decide ((s.data.toList.length:Int)>300)=true):Fn n 77 [.string s] h (.tuple #[.slice none 0 0,iv 0,iv 2]) h.fresh:=
 fnT (kZ h) [yT a0,.z 0]
theorem cuB_ok0(h h2:Heap)(s:ByteArray)(n:Nat)(a0:decide ((s.data.toList.length:Int)>300)=false)(a1:Lf n 39 [1,1,1,0,1,0,0] Tryz.f77 (x16_1 s) h.fresh (.exit 0) [(5,.slice none 0 0)] h2):Fn n 77 [.string s] h (.tuple #[.slice none 0 0,iv 0,iv 0]) h2:=
 fnT (kZ h) [yF a0,yS a1 (kZ h2),.z 0]
theorem cuB_ok1(h h2:Heap)(s:ByteArray)(b k n:Nat)(a0:decide ((s.data.toList.length:Int)>300)=false)(a1:Lf n 39 [1,1,1,0,1,0,0] Tryz.f77 (x16_1 s) h.fresh (.exit 0) [(5,sv b 0 k k)] h2):Fn n 77 [.string s] h (.tuple #[sv b 0 k k,iv 0,iv 0]) h2:=
 fnT (kZ h) [yF a0,yS a1 (kZ h2),.z 0]
theorem cuB_bad(h h2:Heap)(s:ByteArray)(e:Int)(n:Nat)(a0:decide ((s.data.toList.length:Int)>300)=false)(a1:Lf n 39 [1,1,1,0,1,0,0] Tryz.f77 (x16_1 s) h.fresh .ret [(2,.slice none 0 0),(3,iv e),(4,iv 12)] h2):Fn n 77 [.string s] h (.tuple #[.slice none 0 0,iv e,iv 12]) h2:=
 fnT (kZ h) [yF a0,yS a1 (kZ h2),.z 0]
end
end Go.PanE
namespace Go.PanE
open Go.Proofs
/-- A token. -/
structure Tk where
 k:Nat
 n:Nat
 t:List UInt8
 at_:Nat
def Tk.cells(x:Tk):List Value:=[.int .i64 (x.k:Int),.int .i64 (x.n:Int),.string ⟨⟨x.t⟩⟩,.int .i64 (x.at_:Int)]
def tkC(l:List Tk):List Value:=l.flatMap Tk.cells
theorem tkC_length:∀ l:List Tk,(tkC l).length=l.length * 4:=by
 intro l
 induction l with
 |nil=>rfl
 |cons x l ih=>
  show(x.cells++tkC l).length=_
  rw[List.length_append,ih,List.length_cons]
  show 4+l.length * 4=_
  omega
theorem tkC_snoc(l:List Tk)(x:Tk):tkC (l++[x])=tkC l++x.cells:=by
 unfold tkC
 rw[List.flatMap_append]
 simp
inductive LexR where
 |ok (l:List Tk)
 |bad (at_:Nat)
def tkOf(l:List UInt8)(at_:Nat):Tk:=⟨(oneR l).1,(oneR l).2.1,(oneR l).2.2.1,at_⟩
def lexM:Nat→List UInt8→Nat→List Tk→LexR
 |0,_,_,acc=>.ok acc
 |_+1,[],_,acc=>.ok acc
 |n+1,c::r,at_,acc=>
  if kd c=1 then lexM n r (at_+1) acc
  else if(oneR (c::r)).2.2.2=0 then .bad at_
  else lexM n ((c::r).drop (oneR (c::r)).2.2.2) (at_+(oneR (c::r)).2.2.2) (acc++[tkOf (c::r) at_])
def tsR(b:Nat):List Tk→Option Addr
 |[]=>none
 |_::_=>some ⟨b,0,none⟩
def tsV(b:Nat)(l:List Tk):Value:=.slice (tsR b l) l.length l.length
theorem slT155:SlT En 155 199 4 40:=⟨by kernel_rfl,by kernel_rfl,by kernel_rfl,⟨.agg #[.int .i64 0,.int .i64 0,.string ⟨#[]⟩,.int .i64 0],by kernel_rfl,rfl⟩,by decide⟩
theorem slT70:SlT En 70 72 10 112:=⟨by kernel_rfl,by kernel_rfl,by kernel_rfl,⟨.agg #[.int .i64 0,.int .i64 0,.int .i64 0,.string ⟨#[]⟩,.int .i64 0,.int .i64 0,.int .i64 0,.int .i64 0,.string ⟨#[]⟩,.slice none 0 0],by kernel_rfl,rfl⟩,by decide⟩
theorem Gl.up{m:Int}{k:Nat}{h g:Heap}(G:Gl m h)(u:Up k h g)(hk:6≤k):Gl m g:=
 ⟨Nat.le_trans G.nx u.nx,fun b hb=>(u.get b (by omega)).trans (G.get b hb)⟩
/-- Where tokens lie. -/
def TkAt(h:Heap)(k0 b:Nat)(l:List Tk):Prop:=l=[]∨(k0≤b∧h.get b=some (.row 199 (tkC l) 4 false))
theorem TkAt.lt{h:Heap}{k0 b:Nat}{l:List Tk}(t:TkAt h k0 b l):l=[]∨b < h.nx:=t.imp id fun h=>Heap.lt_of_get h.2
theorem lexM_len:∀ (N:Nat) (l:List UInt8) (at_:Nat) (acc ts:List Tk),lexM N l at_ acc= .ok ts→ts.length≤acc.length+l.length:=by
 intro N
 induction N with
 |zero=>intro l at_ acc ts h;simp only[lexM,LexR.ok.injEq] at h;subst h;omega
 |succ N ih=>
  intro l at_ acc ts h
  cases l with
  |nil=>simp only[lexM,LexR.ok.injEq] at h;subst h;omega
  |cons c r=>
   simp only[lexM] at h
   split at h
   ·have:=ih _ _ _ _ h;rw[List.length_cons];omega
   ·split at h
    ·cases h
    ·have:=ih _ _ _ _ h
     rw[List.length_append,List.length_drop,List.length_singleton] at this
     rw[List.length_cons] at this ⊢
     omega
/-- A token after others. -/
theorem tk_append{h:Heap}{k0 b:Nat}{acc:List Tk}(A:TkAt h k0 b acc)(x:Tk)(g:Heap)(hu:Up k0 h g)(hnx:g.nx=h.nx+1)(hbg:acc≠[]→g.get b=h.get b)(hk:k0≤h.nx)(hl:acc.length≤4000):
  ∃ h2,appendA En (g.alloc (.row 199 x.cells 0 false)) #[155,155] (tsV b acc) (.slice (some ⟨g.nx,0,none⟩) 1 1)=some (tsV (h.nx+1+1) (acc++[x]),h2)∧TkAt h2 k0 (h.nx+1+1) (acc++[x])∧Up k0 h h2:=by
 have ua:Up k0 g (g.alloc (.row 199 x.cells 0 false)):=Up.alloc _ _ (by omega)
 have hn2:(g.alloc (.row 199 x.cells 0 false)).nx=h.nx+1+1:=by rw[Heap.nx_alloc,hnx]
 have hgn:(g.alloc (.row 199 x.cells 0 false)).get g.nx=some (.row 199 x.cells 0 false):=Heap.get_new _ _
 cases acc with
 |nil=>
  have ap:=append_nil (c:=1) slT155 hgn (o:=0) (n:=1) (xs:=x.cells) rfl rfl (by decide) (by decide)
  refine⟨(g.alloc (.row 199 x.cells 0 false)).alloc (.row 199 x.cells 4 false),ap.trans ?_,.inr ⟨by omega,?_⟩,(hu.trans ua).trans (Up.alloc _ _ (by omega))⟩
  ·rw[hn2];rfl
  ·have:=Heap.get_new (g.alloc (.row 199 x.cells 0 false)) (.row 199 x.cells 4 false)
   rw[hn2] at this
   rw[this]
   show _=some (AObj.row 199 (tkC [x]) 4 false)
   have:tkC [x]=x.cells:=by simp[tkC]
   rw[this]
 |cons y l=>
  rcases A with A|⟨A1,A2⟩
  ·cases A
  have hb:b < h.nx:=Heap.lt_of_get A2
  have A3:(g.alloc (.row 199 x.cells 0 false)).get b=some (.row 199 (tkC (y::l)) 4 false):=by
   rw[Heap.get_old _ _ (by omega),hbg (by simp)];exact A2
  have ap:=append_open (c:=1) (l:=(y::l).length) slT155 A3 (by rw[tkC_length]) hgn (o:=0) (n:=1) (xs:=x.cells) rfl rfl rfl (by decide) (by omega)
  have hkn:((g.alloc (.row 199 x.cells 0 false)).kill b).nx=h.nx+1+1:=by rw[Heap.nx_kill,hn2]
  refine⟨((g.alloc (.row 199 x.cells 0 false)).kill b).alloc (.row 199 (tkC (y::l)++x.cells) 4 false),ap.trans ?_,.inr ⟨by omega,?_⟩,((hu.trans ua).trans (Up.kill _ A1)).trans (Up.alloc _ _ (by omega))⟩
  ·rw[hn2]
   show _=some (Value.slice (some ⟨h.nx+1+1,0,none⟩) ((y::l)++[x]).length ((y::l)++[x]).length,_)
   rw[List.length_append,List.length_singleton]
  ·have:=Heap.get_new ((g.alloc (.row 199 x.cells 0 false)).kill b) (.row 199 (tkC (y::l)++x.cells) 4 false)
   rw[hkn] at this
   rw[this,tkC_snoc]
end Go.PanE
