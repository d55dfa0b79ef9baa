/-
 Part 23 of the proof of Rows.DumpLinesCardSaid. No conditions.
-/
import Derived.Test.YtihkphfmnnndfaaGreatDoorT22
namespace Go.PanE
open Go.Proofs
noncomputable section
abbrev wy:Vs:=[iv 0,iv 0,.string ⟨#[]⟩,iv 0]
abbrev zpv:Vs:=[.string ⟨#[43]⟩,.string ⟨#[45]⟩,.string ⟨#[42]⟩,.string ⟨#[47]⟩,.string ⟨#[37]⟩,.string ⟨#[94]⟩,.string ⟨#[38]⟩,.string ⟨#[61]⟩,.string ⟨#[60]⟩,.string ⟨#[62]⟩,.string ⟨#[60,62]⟩,.string ⟨#[60,61]⟩,.string ⟨#[62,61]⟩,.string ⟨#[40]⟩,.string ⟨#[41]⟩,.string ⟨#[44]⟩,.string ⟨#[58]⟩]
abbrev zpu(s:BA)(at_:Nat)(h:Heap):List (Nat×Value):=[(0,.string s),(1,iv (at_:Int)),(4,pv h.nx 0),(5,iv 0),(11,.string s),(12,iv (at_:Int)),(13,.int .u8 (bAt s (at_:Int):Int)),(6,.int .u8 (bAt s (at_:Int):Int)),(15,.int .u8 (bAt s (at_:Int):Int)),(16,.bool false),(14,.bool false),(23,.int .u8 (bAt s (at_:Int):Int)),(24,.bool false),(22,.bool false),(55,.int .u8 (bAt s (at_:Int):Int)),(56,.bool false),(54,.bool false),(8,iv 2)]
abbrev zcy(s:BA)(at_ B i:Nat):List (Nat×Value):=[(0,.string s),(1,iv (at_:Int)),(4,pv B 0),(7,iv (i:Int))]
abbrev zpt(s:BA)(at_ B k b:Nat):List (Nat×Value):=[(0,.string s),(1,iv (at_:Int)),(4,pv B 0),(8,iv (k:Int)),(62,iv (k:Int)),(63,.bool true),(66,iv (at_:Int)),(67,iv (k:Int)),(68,iv ((at_:Int)+(k:Int))),(69,.string s),(70,iv s.data.toList.length),(71,.bool false),(72,sv b 0 17 17),(9,sv b 0 17 17),(10,iv 0)]
abbrev ziT(s:BA)(at_ B k b i:Nat):List (Nat×Value):=[(0,.string s),(1,iv (at_:Int)),(4,pv B 0),(8,iv (k:Int)),(9,sv b 0 17 17),(10,iv (i:Int))]
abbrev zfA(s:BA)(at_ B k:Nat):List (Nat×Value):=[(0,.string s),(1,iv (at_:Int)),(4,pv B 0),(8,iv (k:Int))]
abbrev zbd(s:BA)(at_:Nat):Vs:=[.string s,iv (at_:Int)]
abbrev zfz(k0 n0:Int)(t:BA)(a0_ e:Int):Value:=.tuple #[.agg #[iv k0,iv n0,.string t,iv a0_],iv e]
variable (h h2 h3:Heap) (s t:BA) (B b i at_:Nat) (k0 n0 a0_ e:Int) (k n:Nat)
theorem ztP(B n:Nat)(_h1:i < s.data.toList.length)(_h2:s.data.toList.length < 4611686018427387904)(a0:decide ((i:Int) < s.data.toList.length)=true)(a1:Pu n 147 [.int .u8 (bAt s (i:Int):Int)] (.bool true) h):Bd n 98 [1,1,0,0,1,1,1,0,1,0,0,0] Tryz.f109 (zcy s at_ B i) h .normal [(0,.string s),(1,iv (at_:Int)),(4,pv B 0),(7,iv ((i:Int)+1))] h:=
 bdF (kZ h) [yT a0,yI 9 s (i:Int),yP a1,yW ((i:Int)+1),.z 0]
theorem ztR(B n:Nat)(_h1:i < s.data.toList.length)(_h2:s.data.toList.length < 4611686018427387904)(a0:decide ((i:Int) < s.data.toList.length)=true)(a1:Pu n 147 [.int .u8 (bAt s (i:Int):Int)] (.bool false) h)(a2:Pu n 145 [.int .u8 (bAt s (i:Int):Int)] (.bool true) h):Bd n 98 [1,1,0,0,1,1,1,0,1,0,0,0] Tryz.f109 (zcy s at_ B i) h .normal [(0,.string s),(1,iv (at_:Int)),(4,pv B 0),(7,iv ((i:Int)+1))] h:=
 bdF (kZ h) [yT a0,yI 9 s (i:Int),yP a1,yI 9 s (i:Int),yP a2,yW ((i:Int)+1),.z 0]
theorem ztO(B n:Nat)(_h1:i < s.data.toList.length)(_h2:s.data.toList.length < 4611686018427387904)(a0:decide ((i:Int) < s.data.toList.length)=true)(a1:Pu n 147 [.int .u8 (bAt s (i:Int):Int)] (.bool false) h)(a2:Pu n 145 [.int .u8 (bAt s (i:Int):Int)] (.bool false) h):Bd n 98 [1,1,0,0,1,1,1,0,1,0,0,0] Tryz.f109 (zcy s at_ B i) h (.exit 1) (zcy s at_ B i) h:=
 bdF (kZ h) [yT a0,yI 9 s (i:Int),yP a1,yI 9 s (i:Int),yP a2,.z 0]
theorem ztQ(B n:Nat)(a0:decide ((i:Int) < s.data.toList.length)=false):Bd n 98 [1,1,0,0,1,1,1,0,1,0,0,0] Tryz.f109 (zcy s at_ B i) h (.exit 1) (zcy s at_ B i) h:=
 bdF (kZ h) [yF a0,.z 0]
theorem ztY:Fn n 150 [] h (sv h.nx 0 17 17) (al h.fh 9 zpv):=
 fnV (kZ h) [aS 9 zpv,.z 0]
theorem zvN(_h1:i < 17)(_h2:at_+k≤s.data.toList.length)(_h3:s.data.toList.length < 4611686018427387904)(a0:decide ((i:Int) < 17)=true)(a1:LD h 9 b (0+i * 1) (.string t))(a2:bqS t (zv s (at_:Int) ((at_:Int)+(k:Int)))=false)(a3:LD h 9 b (0+i * 1) (.string t)):Bd n 98 [1,1,1,0,1,0,0,1,0,0,1,1,1,0,0] Tryz.f109 (ziT s at_ B k b i) h .normal [(0,.string s),(1,iv (at_:Int)),(4,pv B 0),(8,iv (k:Int)),(9,sv b 0 17 17),(10,iv ((i:Int)+1))] h:=
 bdF (kZ h) [yT a0,iA 32 9 1 b 17 i,yE a1,yW ((at_:Int)+(k:Int)),cB 9 s (at_:Int) ((at_:Int)+(k:Int)),yF a2,yN h.nx,.q (yE a3),.q (cB 9 s (at_:Int) ((at_:Int)+(k:Int))),yW ((i:Int)+1),.z 0]
theorem zsY(_h1:i < 17)(_h2:at_+k≤s.data.toList.length)(_h3:s.data.toList.length < 4611686018427387904)(hB:h.get B=some (.row 199 wy 0 false))(a0:decide ((i:Int) < 17)=true)(a1:LD h 9 b (0+i * 1) (.string t))(a2:bqS t (zv s (at_:Int) ((at_:Int)+(k:Int)))=true)(a3:LD h 9 b (0+i * 1) (.string t))(a4:LD h 9 b (0+i * 1) (.string t)):Bd n 98 [1,1,1,0,1,0,0,1,0,0,1,1,1,0,0] Tryz.f109 (ziT s at_ B k b i) h .ret [(4,pv B 0),(5,iv (k:Int))] (pt h B 199 [iv 4,iv 0,.string t,iv (at_:Int)]):=
 bdF (kI (ko hB)) [yT a0,iA 32 9 1 b 17 i,yE a1,yW ((at_:Int)+(k:Int)),cB 9 s (at_:Int) ((at_:Int)+(k:Int)),yT a2,yN h.nx,.q (yE a3),.q (cB 9 s (at_:Int) ((at_:Int)+(k:Int))),iA 32 9 1 b 17 i,yE a4,.w 0 199 0 (.agg #[iv 4,iv 0,.string t,iv (at_:Int)]),.z 0]
theorem zsZ(a0:decide ((i:Int) < 17)=false):Bd n 98 [1,1,1,0,1,0,0,1,0,0,1,1,1,0,0] Tryz.f109 (ziT s at_ B k b i) h (.exit 5) [(0,.string s),(1,iv (at_:Int)),(4,pv B 0),(8,iv (k:Int))] h:=
 bdF (kZ h) [yF a0,.z 0]
theorem zqf(_h1:1≤k∧k≤2)(_h2:at_ < 4611686018427387904)(a0:decide ((k:Int)≥1)=true)(a1:decide (((at_:Int)+(k:Int):Int)>s.data.toList.length)=true):Bd n 98 [1,1,1,0,1,0,0] Tryz.f109 (zfA s at_ B k) h .normal [(0,.string s),(1,iv (at_:Int)),(4,pv B 0),(8,iv ((k:Int) - 1))] h:=
 bdF (kZ h) [yT a0,yW ((at_:Int)+(k:Int)),yT a1,yW ((k:Int) - 1),.z 0]
theorem zqg(_h1:1≤k∧k≤2)(_h2:at_ < 4611686018427387904)(a0:decide ((k:Int)≥1)=true)(a1:decide (((at_:Int)+(k:Int):Int)>s.data.toList.length)=false)(a2:RD n 150 [] h=some (sv b 0 17 17,h2))(a3:Lf n 98 [1,1,1,0,1,0,0,1,0,0,1,1,1,0,0] Tryz.f109 (zpt s at_ B k b) h2 (.exit 5) (zfA s at_ B k) h2):Bd n 98 [1,1,1,0,1,0,0] Tryz.f109 (zfA s at_ B k) h .normal [(0,.string s),(1,iv (at_:Int)),(4,pv B 0),(8,iv ((k:Int) - 1))] h2:=
 bdF (kZ h) [yT a0,yW ((at_:Int)+(k:Int)),yF a1,yC a2 (kZ h2),yS a3 (kZ h2),yW ((k:Int) - 1),.z 0]
theorem zsR(_h1:1≤k∧k≤2)(_h2:at_ < 4611686018427387904)(a0:decide ((k:Int)≥1)=true)(a1:decide (((at_:Int)+(k:Int):Int)>s.data.toList.length)=false)(a2:RD n 150 [] h=some (sv b 0 17 17,h2))(a3:Lf n 98 [1,1,1,0,1,0,0,1,0,0,1,1,1,0,0] Tryz.f109 (zpt s at_ B k b) h2 .ret [(4,pv B 0),(5,iv (k:Int))] h3):Bd n 98 [1,1,1,0,1,0,0] Tryz.f109 (zfA s at_ B k) h .ret [(4,pv B 0),(5,iv (k:Int))] h3:=
 bdF (kZ h) [yT a0,yW ((at_:Int)+(k:Int)),yF a1,yC a2 (kZ h2),yS a3 (kZ h3),.z 0]
theorem zsS:Bd n 98 [1,1,1,0,1,0,0] Tryz.f109 [(0,.string s),(1,iv (at_:Int)),(4,pv B 0),(8,iv 0)] h (.exit 3) [(4,pv B 0)] h:=
 bdF (kZ h) [bF,.z 0]
theorem zlw(_h1:at_ < s.data.toList.length)(_h2:s.data.toList.length < 4611686018427387904)(a0:Pu n 145 [.int .u8 (bAt s (at_:Int):Int)] (.bool true) (al h.fh 199 wy))(a1:Pu n 146 (zbd s at_) (zfz k0 n0 t a0_ e) (al h.fh 199 wy)):Fn n 109 (zbd s at_) h (zfz k0 n0 t a0_ e) (pt (al h.fh 199 wy) h.nx 199 [iv k0,iv n0,.string t,iv a0_]):=
 fnT (kZ h) [aS 199 wy,yI 9 s (at_:Int),yP a0,yP a1,.w 0 199 0 (.agg #[iv k0,iv n0,.string t,iv a0_]),.r 0 199 4,.z 1]
theorem zqW(m n:Nat)(_h1:at_ < s.data.toList.length)(_h2:s.data.toList.length < 4611686018427387904)(_h3:at_≤m∧m≤s.data.toList.length)(a0:Pu n 145 [.int .u8 (bAt s (at_:Int):Int)] (.bool false) (al h.fh 199 wy))(a1:Pu n 147 [.int .u8 (bAt s (at_:Int):Int)] (.bool true) (al h.fh 199 wy))(a2:Lf n 98 [1,1,0,0,1,1,1,0,1,0,0,0] Tryz.f109 [(0,.string s),(1,iv (at_:Int)),(4,pv h.nx 0),(5,iv 0),(11,.string s),(12,iv (at_:Int)),(13,.int .u8 (bAt s (at_:Int):Int)),(6,.int .u8 (bAt s (at_:Int):Int)),(15,.int .u8 (bAt s (at_:Int):Int)),(16,.bool false),(14,.bool false),(23,.int .u8 (bAt s (at_:Int):Int)),(24,.bool true),(22,.bool true),(25,iv (at_:Int)),(7,iv (at_:Int))] (al h.fh 199 wy) (.exit 1) [(0,.string s),(1,iv (at_:Int)),(4,pv h.nx 0),(7,iv (m:Int))] (al h.fh 199 wy))(a3:Pu n 148 [.string (zv s (at_:Int) (m:Int))] (.string t) (al h.fh 199 wy)):Fn n 109 (zbd s at_) h (.tuple #[.agg #[iv 3,iv 0,.string t,iv (at_:Int)],iv ((m:Int) - (at_:Int))]) (pt (al h.fh 199 wy) h.nx 199 [iv 3,iv 0,.string t,iv (at_:Int)]):=
 fnT (kZ h) [aS 199 wy,yI 9 s (at_:Int),yP a0,yP a1,yS a2 (kI (ko (show(al h.fh 199 wy).get h.nx=_ from gN))),cB 9 s (at_:Int) (m:Int),yP a3,yW ((m:Int) - (at_:Int)),.w 0 199 0 (.agg #[iv 3,iv 0,.string t,iv (at_:Int)]),.r 0 199 4,.z 1]
theorem zh4(_h1:at_ < s.data.toList.length)(_h2:s.data.toList.length < 4611686018427387904)(a0:Pu n 145 [.int .u8 (bAt s (at_:Int):Int)] (.bool false) (al h.fh 199 wy))(a1:Pu n 147 [.int .u8 (bAt s (at_:Int):Int)] (.bool false) (al h.fh 199 wy))(a2:(((bAt s (at_:Int):Int):Int)==34)=true)(a3:Pu n 149 (zbd s at_) (zfz k0 n0 t a0_ e) (al h.fh 199 wy)):Fn n 109 (zbd s at_) h (zfz k0 n0 t a0_ e) (pt (al h.fh 199 wy) h.nx 199 [iv k0,iv n0,.string t,iv a0_]):=
 fnT (kZ h) [aS 199 wy,yI 9 s (at_:Int),yP a0,yP a1,yT a2,yP a3,.w 0 199 0 (.agg #[iv k0,iv n0,.string t,iv a0_]),.r 0 199 4,.z 1]
theorem ztN(_h1:at_ < s.data.toList.length)(_h2:s.data.toList.length < 4611686018427387904)(hB:h3.get h.nx=some (.row 199 [iv 4,iv 0,.string t,iv (at_:Int)] 0 false))(a0:Pu n 145 [.int .u8 (bAt s (at_:Int):Int)] (.bool false) (al h.fh 199 wy))(a1:Pu n 147 [.int .u8 (bAt s (at_:Int):Int)] (.bool false) (al h.fh 199 wy))(a2:(((bAt s (at_:Int):Int):Int)==34)=false)(a3:Lf n 98 [1,1,1,0,1,0,0] Tryz.f109 (zpu s at_ h) (al h.fh 199 wy) .ret [(4,pv h.nx 0),(5,iv (k:Int))] h3):Fn n 109 (zbd s at_) h (.tuple #[.agg #[iv 4,iv 0,.string t,iv (at_:Int)],iv (k:Int)]) h3:=
 fnT (kZ h) [aS 199 wy,yI 9 s (at_:Int),yP a0,yP a1,yF a2,yS a3 (kI (ko hB)),.r 0 199 4,.z 1]
theorem zqX(_h1:at_ < s.data.toList.length)(_h2:s.data.toList.length < 4611686018427387904)(hB:h3.get h.nx=some (.row 199 wy 0 false))(_hl:h.nx < h3.nx)(a0:Pu n 145 [.int .u8 (bAt s (at_:Int):Int)] (.bool false) (al h.fh 199 wy))(a1:Pu n 147 [.int .u8 (bAt s (at_:Int):Int)] (.bool false) (al h.fh 199 wy))(a2:(((bAt s (at_:Int):Int):Int)==34)=false)(a3:Lf n 98 [1,1,1,0,1,0,0] Tryz.f109 (zpu s at_ h) (al h.fh 199 wy) (.exit 3) [(4,pv h.nx 0)] h3):Fn n 109 (zbd s at_) h (.tuple #[.agg #[iv 0,iv 0,.string ⟨#[]⟩,iv 0],iv 0]) (pt h3 h.nx 199 wy):=
 fnT (kZ h) [aS 199 wy,yI 9 s (at_:Int),yP a0,yP a1,yF a2,yS a3 (kI (ko hB)),.w 0 199 0 (.agg #[iv 0,iv 0,.string ⟨#[]⟩,iv 0]),.r 0 199 4,.z 1]
end
def vB(v:Value):Bool:=match v with| .bool b=>b|_=>false
def zmY(n:Nat):Bool:=
 (match rdig_v (n:Int) with| .bool b=>b==(Nat.ble 48 n && Nat.ble n 57)|_=>false) &&
 (match rlet_v (n:Int) with| .bool b=>b==((Nat.ble 97 n && Nat.ble n 122) || (Nat.ble 65 n && Nat.ble n 90))|_=>false)
theorem zgp:((List.range 256).all zmY)=true:=by kernel_rfl
theorem zb1(b:UInt8)(h:Heap)(n:Nat)(hn:1≤n):RD n 145 [.int .u8 (b.toNat:Int)] h=some (.bool (isD b),h):=by
 have e:=ve zgp b.toNat (vu b)
 unfold zmY at e
 rw[bA] at e
 have l:=znl (b.toNat:Int) h n hn
 have e1:=e.1
 generalize rdig_v (b.toNat:Int)=v at e1 l
 split at e1
 ·rename_i q
  have:=eq_of_beq e1
  subst this
  have hd:isD b=(Nat.ble 48 b.toNat && Nat.ble b.toNat 57):=by
   rw[Bool.eq_iff_iff,isD_dig,bA,Nat.ble_eq,Nat.ble_eq];exact Iff.rfl
  rw[hd];exact l
 ·simp at e1
def isL(b:UInt8):Bool:=kd b==3
theorem zfc(b:UInt8)(h:Heap)(n:Nat)(hn:1≤n):RD n 147 [.int .u8 (b.toNat:Int)] h=some (.bool (isL b),h):=by
 have e:=ve zgp b.toNat (vu b)
 unfold zmY at e
 rw[bA] at e
 have l:=znj (b.toNat:Int) h n hn
 have e1:=e.2
 generalize rlet_v (b.toNat:Int)=v at e1 l
 split at e1
 ·rename_i q
  have:=eq_of_beq e1
  subst this
  have hd:isL b=((Nat.ble 97 b.toNat && Nat.ble b.toNat 122) || (Nat.ble 65 b.toNat && Nat.ble b.toNat 90)):=by
   rw[Bool.eq_iff_iff,Bool.or_eq_true,bA,bA,Nat.ble_eq,Nat.ble_eq,Nat.ble_eq,Nat.ble_eq]
   unfold isL
   rw[beq_iff_eq]
   exact(uO b).2.1
  rw[hd];exact l
 ·simp at e1
section
variable (s:BA) (n:Nat) (hn:1≤n) (hs:s.data.toList.length≤4000)
include hn hs
theorem znS(B at_:Nat)(H:Heap)(hB:H.get B=some (.row 199 [.int .i64 0,.int .i64 0,.string ⟨#[]⟩,.int .i64 0] 0 false)):∀ (r:Bsy) (i u:Nat),s.data.toList.drop i=r→u≤9223372036854775807→
  ∃ q,q≤r.length+1∧(if qm u (r.takeWhile isD)≤9223372036854775807 then
   Loops En (RD n) 44 18446744073709551616 (sub [1,1,1,0,0,0] (zp Tryz.f146)) [(0,.string s),(1,.int .i64 (at_:Int)),(4,.pointer (some ⟨B,0,none⟩)),(6,.int .i64 (i:Int)),(7,.int .u64 (u:Int))] H (.exit 0)
    [(1,.int .i64 (at_:Int)),(4,.pointer (some ⟨B,0,none⟩)),(6,.int .i64 ((i+(r.takeWhile isD).length:Nat):Int)),(7,.int .u64 ((qm u (r.takeWhile isD):Nat):Int))] H q
  else Loops En (RD n) 44 18446744073709551616 (sub [1,1,1,0,0,0] (zp Tryz.f146)) [(0,.string s),(1,.int .i64 (at_:Int)),(4,.pointer (some ⟨B,0,none⟩)),(6,.int .i64 (i:Int)),(7,.int .u64 (u:Int))] H .ret
    [(4,.pointer (some ⟨B,0,none⟩)),(5,.int .i64 0)] (H.put B (.row 199 [.int .i64 0,.int .i64 0,.string ⟨#[]⟩,.int .i64 0] 0 false)) q):=by
 intro r
 induction r with
 |nil=>
  intro i u hi hu
  have:=ji hi
  refine⟨1,by simp,?_⟩
  rw[if_pos (by exact hu)]
  exact .out (ztV H s B i at_ u n (by simp only[decide_eq_false_iff_not];omega))
 |cons c r ih=>
  intro i u hi hu
  have hlt:=jt hi
  have hb:=wD s i c r hi
  have a0:decide ((i:Int) < s.data.toList.length)=true:=by simp only[decide_eq_true_eq];omega
  have a1:=zb1 c H n hn
  rw[← hb] at a1
  cases hd:isD c with
  |false=>
   rw[hd] at a1
   have ht:(c::r).takeWhile isD=[]:=by rw[List.takeWhile_cons,if_neg (by simp[hd])]
   refine⟨1,by simp,?_⟩
   rw[ht,if_pos (by exact hu)]
   exact .out (ztU H s B i at_ u n hlt a0 a1)
  |true=>
   rw[hd] at a1
   have ht:(c::r).takeWhile isD=c::r.takeWhile isD:=by rw[List.takeWhile_cons,if_pos hd]
   have hc:=(isD_dig c).1 hd
   unfold dig at hc
   have hq:wF .quo .u64 (9223372036854775807 - ((bAt s (i:Int):Int) - 48)) 10=some (.int .u64 ((9223372036854775807 - ((bAt s (i:Int):Int) - 48)) / 10)):=zhY (by rw[hb];omega) (by omega) (by rw[hb];omega)
   have hdv:qm u (c::r.takeWhile isD)=qm (u * 10+(c.toNat - 48)) (r.takeWhile isD):=rfl
   have hge:=zil (r.takeWhile isD) (u * 10+(c.toNat - 48))
   rw[ht,hdv]
   by_cases hbig:u * 10+(c.toNat - 48)≤9223372036854775807
   ·obtain⟨q,hq1,hl⟩:=ih (i+1) (u * 10+(c.toNat - 48)) (wN hi) hbig
    have b1:=zwM H s B i at_ u c.toNat n hlt (by omega) hu hc hb (by rw[hb];omega) a0 a1 hq (by simp only[decide_eq_false_iff_not];rw[hb];omega) rfl
    have e7:((u:Int) * 10+((bAt s (i:Int):Int) - 48))=((u * 10+(c.toNat - 48):Nat):Int):=by rw[hb];omega
    rw[e7] at b1
    refine⟨q+1,by simp only[lC];omega,?_⟩
    split
    ·rename_i h1
     rw[if_pos h1] at hl
     rw[lC,show i+((r.takeWhile isD).length+1)=i+1+(r.takeWhile isD).length by omega]
     exact .on b1 hl
    ·rename_i h1
     rw[if_neg h1] at hl
     exact .on b1 hl
   ·refine⟨1,by simp,?_⟩
    rw[if_neg (by omega)]
    exact .ret (ztW H s B i at_ u c.toNat n hlt (by omega) hu hc hb hB a0 a1 hq (by simp only[decide_eq_true_eq];rw[hb];omega))
theorem zjH(H:Heap)(at_ B:Nat):∀ (r:Bsy) (i:Nat),s.data.toList.drop i=r→Loops En (RD n) 98 18446744073709551616 (sub [1,1,0,0,1,1,1,0,1,0,0,0] (zp Tryz.f109)) [(0,.string s),(1,.int .i64 (at_:Int)),(4,.pointer (some ⟨B,0,none⟩)),(7,.int .i64 (i:Int))] H (.exit 1) [(0,.string s),(1,.int .i64 (at_:Int)),(4,.pointer (some ⟨B,0,none⟩)),(7,.int .i64 ((i+(r.takeWhile isW).length:Nat):Int))] H ((r.takeWhile isW).length+1):=by
 intro r
 induction r with
 |nil=>
  intro i hi
  have:=ji hi
  exact .out (ztQ H s i at_ B n (by simp only[decide_eq_false_iff_not];omega))
 |cons c r ih=>
  intro i hi
  have hlt:=jt hi
  have hb:=wD s i c r hi
  have a0:decide ((i:Int) < s.data.toList.length)=true:=by simp only[decide_eq_true_eq];omega
  have a1:=zfc c H n hn
  have a2:=zb1 c H n hn
  rw[← hb] at a1 a2
  have hW:isW c=(isL c || isD c):=rfl
  have hr:=ih (i+1) (wN hi)
  cases h1:isL c with
  |true=>
   rw[h1] at a1
   rw[List.takeWhile_cons,if_pos (by rw[hW,h1];rfl),lC,show i+((r.takeWhile isW).length+1)=i+1+(r.takeWhile isW).length by omega]
   exact .on (ztP H s i at_ B n hlt (by omega) a0 a1) hr
  |false=>
   rw[h1] at a1
   cases h2:isD c with
   |true=>
    rw[h2] at a2
    rw[List.takeWhile_cons,if_pos (by rw[hW,h1,h2];rfl),lC,show i+((r.takeWhile isW).length+1)=i+1+(r.takeWhile isW).length by omega]
    exact .on (ztR H s i at_ B n hlt (by omega) a0 a1 a2) hr
   |false=>
    rw[h2] at a2
    rw[List.takeWhile_cons,if_neg (by rw[hW,h1,h2];simp)]
    exact .out (ztO H s i at_ B n hlt (by omega) a0 a1 a2)
end
theorem zqY(s:BA)(at_:Nat)(h:Heap)(n:Nat)(hn:2≤n)(hs:s.data.toList.length≤4000)(hat:at_≤s.data.toList.length):
  RD n 146 [.string s,.int .i64 (at_:Int)] h=some ((match uL ((s.data.toList.drop at_).takeWhile isD) with
   |some v=>.tuple #[zgo 1 (v:Int) ⟨#[]⟩ (at_:Int),.int .i64 (((s.data.toList.drop at_).takeWhile isD).length:Int)]
   |none=>.tuple #[zjI,.int .i64 0]),h):=by
 obtain⟨m,rfl⟩:=zs_ n
 obtain⟨q,hq,hl⟩:=znS s m (by omega) hs (Heap.fh h).nx at_ ((Heap.fh h).alloc (.row 199 [.int .i64 0,.int .i64 0,.string ⟨#[]⟩,.int .i64 0] 0 false)) (zb _ _) (s.data.toList.drop at_) at_ 0 rfl (by omega)
 have hql:q≤18446744073709551616:=by rw[List.length_drop] at hq;omega
 have htw:((s.data.toList.drop at_).takeWhile isD).length≤s.data.toList.length - at_:=by
  rw[← List.length_drop];exact(List.takeWhile_prefix _).length_le
 unfold uL
 split at hl
 ·rename_i h1
  rw[if_pos h1]
  refine(zqZ h s at_ _ _ m (by omega) (by omega) h1 (hl.fact2 hql (by kernel_rfl))).trans ?_
  rw[zk (by rw[ze,zl];show h.nx≤min h.nx h.nx;omega) rfl]
  have:((at_+((s.data.toList.drop at_).takeWhile isD).length:Nat):Int) - (at_:Int)=(((s.data.toList.drop at_).takeWhile isD).length:Int):=by omega
  rw[this];rfl
 ·rename_i h1
  rw[if_neg h1]
  refine(ztX h s at_ m (hl.fact2 hql (by kernel_rfl))).trans ?_
  rw[zk (by rw[ze,zl];show h.nx≤min h.nx h.nx;omega) rfl];rfl
def vC:List BA:=[⟨#[43]⟩,⟨#[45]⟩,⟨#[42]⟩,⟨#[47]⟩,⟨#[37]⟩,⟨#[94]⟩,⟨#[38]⟩,⟨#[61]⟩,⟨#[60]⟩,⟨#[62]⟩,⟨#[60,62]⟩,⟨#[60,61]⟩,⟨#[62,61]⟩,⟨#[40]⟩,⟨#[41]⟩,⟨#[44]⟩,⟨#[58]⟩]
section
variable (s:BA) (n at_ k B b:Nat) (H:Heap) (hk:at_+k≤s.data.toList.length) (hs:s.data.toList.length≤4000)
 (hB:H.get B=some (.row 199 [.int .i64 0,.int .i64 0,.string ⟨#[]⟩,.int .i64 0] 0 false)) (hb:H.get b=some (.row 9 (vC.map Value.string) 0 false))
include hk hs hB hb
theorem zkP:∀ (r:List BA) (i:Nat),vC.drop i=r→∃ q,q≤r.length+1∧
  match r.find? (fun t=>t.data.toList==(s.data.toList.drop at_).take k) with
  |none=>Loops En (RD n) 98 18446744073709551616 (sub [1,1,1,0,1,0,0,1,0,0,1,1,1,0,0] (zp Tryz.f109)) [(0,.string s),(1,.int .i64 (at_:Int)),(4,.pointer (some ⟨B,0,none⟩)),(8,.int .i64 (k:Int)),(9,.slice (some ⟨b,0,none⟩) 17 17),(10,.int .i64 (i:Int))] H (.exit 5)
    [(0,.string s),(1,.int .i64 (at_:Int)),(4,.pointer (some ⟨B,0,none⟩)),(8,.int .i64 (k:Int))] H q
  |some t=>Loops En (RD n) 98 18446744073709551616 (sub [1,1,1,0,1,0,0,1,0,0,1,1,1,0,0] (zp Tryz.f109)) [(0,.string s),(1,.int .i64 (at_:Int)),(4,.pointer (some ⟨B,0,none⟩)),(8,.int .i64 (k:Int)),(9,.slice (some ⟨b,0,none⟩) 17 17),(10,.int .i64 (i:Int))] H .ret
    [(4,.pointer (some ⟨B,0,none⟩)),(5,.int .i64 (k:Int))] (H.put B (.row 199 [.int .i64 4,.int .i64 0,.string t,.int .i64 (at_:Int)] 0 false)) q:=by
 intro r
 induction r with
 |nil=>
  intro i hi
  have:17≤i:=List.drop_eq_nil_iff.1 hi
  exact⟨1,by simp,.out (zsZ H s B b i at_ k n (by simp only[decide_eq_false_iff_not];omega))⟩
 |cons t r ih=>
  intro i hi
  have hlt:i < 17:=by
   rcases Nat.lt_or_ge i 17 with h|h
   ·exact h
   ·rw[List.drop_eq_nil_of_le (by exact h)] at hi;simp at hi
  have a0:decide ((i:Int) < 17)=true:=by simp only[decide_eq_true_eq];omega
  have a1:ui En H 9 ⟨b,0+i * 1,none⟩=some (.string t):=by
   refine zG hb (by kernel_rfl) ?_
   rw[Nat.zero_add,Nat.mul_one,← List.map_drop,hi];rfl
  have hcut:(zv s (at_:Int) ((at_:Int)+(k:Int))).data.toList=(s.data.toList.drop at_).take k:=by
   unfold zv
   show(s.data.toList.drop (at_:Int).toNat).take (((at_:Int)+(k:Int)).toNat - (at_:Int).toNat)=_
   rw[Int.toNat_natCast,show((at_:Int)+(k:Int)).toNat - at_=k by omega]
  cases ht:t.data.toList==(s.data.toList.drop at_).take k with
  |true=>
   rw[List.find?_cons_of_pos (by exact ht)]
   exact⟨1,by simp,.ret (zsY H s t B b i at_ k n hlt hk (by omega) hB a0 a1 (by unfold bqS;rw[hcut];exact ht) a1 a1)⟩
  |false=>
   rw[List.find?_cons_of_neg (by rw[ht];simp)]
   obtain⟨q,hq,hl⟩:=ih (i+1) (by rw[← List.drop_drop,hi];rfl)
   have b1:=zvN H s t B b i at_ k n hlt hk (by omega) a0 a1 (by unfold bqS;rw[hcut];exact ht) a1
   refine⟨q+1,by simp only[lC];omega,?_⟩
   split at hl
   ·exact .on b1 hl
   ·exact .on b1 hl
end
theorem znb:((List.range 256).all fun n=>vC.any (fun t=>t.data.toList==[UInt8.ofNat n])==(kdV (zA (n:Int))==5))=true:=by kernel_rfl
theorem zs4(c:UInt8):vC.any (fun t=>t.data.toList==[c])=decide (kd c=5):=by
 have h:=eq_of_beq (ve znb c.toNat (vu c))
 rw[UInt8.ofNat_toNat] at h
 rw[h]
 unfold kd
 generalize kdV (zA (c.toNat:Int))=k
 rfl
theorem zs3(a b:UInt8):vC.any (fun t=>t.data.toList==[a,b])=decide ([a,b]=[60,62]∨[a,b]=[60,61]∨[a,b]=[62,61]):=by
 rw[Bool.eq_iff_iff,decide_eq_true_eq]
 simp only[vC,List.any_cons,List.any_nil,Bool.or_false,Bool.or_eq_true,beq_iff_eq]
 simp only[List.cons.injEq,and_true,reduceCtorEq,and_false,false_or,or_false]
 constructor
 ·rintro(⟨rfl,rfl⟩|⟨rfl,rfl⟩|⟨rfl,rfl⟩) <;>simp
 ·rintro(⟨rfl,rfl⟩|⟨rfl,rfl⟩|⟨rfl,rfl⟩) <;>simp
theorem zcT{w:Bsy}(h:vC.any (fun t=>t.data.toList==w)=true):vC.find? (fun t=>t.data.toList==w)=some ⟨⟨w⟩⟩:=by
 cases e:vC.find? (fun t=>t.data.toList==w) with
 |none=>
  rw[List.find?_eq_none] at e
  rw[List.any_eq_true] at h
  obtain⟨t,h1,h2⟩:=h
  exact absurd h2 (e t h1)
 |some t=>
  have:=List.find?_some e
  have:t.data.toList=w:=eq_of_beq this
  subst this;rfl
theorem zcS{w:Bsy}(h:vC.any (fun t=>t.data.toList==w)=false):vC.find? (fun t=>t.data.toList==w)=none:=by
 rw[List.find?_eq_none]
 intro t ht hp
 have:vC.any (fun t=>t.data.toList==w)=true:=List.any_eq_true.2 ⟨t,ht,hp⟩
 rw[h] at this;simp at this
theorem zkN(h:Heap)(n:Nat)(hn:1≤n):∃ h',RD n 150 [] h=some (.slice (some ⟨h.nx,0,none⟩) 17 17,h')∧h'.get h.nx=some (.row 9 (vC.map Value.string) 0 false)∧Up h.nx h h'∧h'.nx=h.nx+1∧h'.wm=min h.wm h.nx:=by
 obtain⟨m,rfl⟩:=zs_ n
 have hp:=ztY h m
 unfold Fn at hp
 have hlt:Nat.blt h.nx h.nx=false:=by
  cases e:Nat.blt h.nx h.nx with
  |false=>rfl
  |true=>rw[Nat.blt_eq] at e;omega
 have hl:zM h.nx 5 (.slice (some ⟨h.nx,0,none⟩) 17 17)=false:=hlt
 rw[zah hl] at hp
 refine⟨_,hp,zb (Heap.fh h) _,⟨by show h.nx≤h.nx+1;omega,by show min h.nx h.wm≤min h.wm h.nx;omega,fun b hb=>zm (Heap.fh h) _ hb⟩,rfl,rfl⟩
def zjJ(l:Bsy)(at_:Nat):Value:=
 if(zD l).2.2.2=0 then .tuple #[zjI,.int .i64 0]
 else .tuple #[zgo ((zD l).1:Int) ((zD l).2.1:Int) ⟨⟨(zD l).2.2.1⟩⟩ (at_:Int),.int .i64 ((zD l).2.2.2:Int)]
theorem zkQ{a b:UInt8}{r:Bsy}:jZ (a::b::r)=if([a,b]=[60,62]∨[a,b]=[60,61]∨[a,b]=[62,61]) then 2 else 1:=rfl
section
variable (s:BA) (n at_ B:Nat) (hn:1≤n) (hs:s.data.toList.length≤4000)
include hn hs
theorem zgr(k:Nat)(hk:1≤k∧k≤2)(H:Heap)(hB:H.get B=some (.row 199 [.int .i64 0,.int .i64 0,.string ⟨#[]⟩,.int .i64 0] 0 false))(hlen:at_+k≤s.data.toList.length)(hat:at_≤4000):
  ∃ H',H'.get B=H.get B∧H.nx≤H'.nx∧min B H.wm≤H'.wm∧(match vC.find? (fun t=>t.data.toList==(s.data.toList.drop at_).take k) with
   |none=>wC En (RD n) 98 18446744073709551616 (sub [1,1,1,0,1,0,0] (zp Tryz.f109)) [(0,.string s),(1,.int .i64 (at_:Int)),(4,.pointer (some ⟨B,0,none⟩)),(8,.int .i64 (k:Int))] H .normal [(0,.string s),(1,.int .i64 (at_:Int)),(4,.pointer (some ⟨B,0,none⟩)),(8,.int .i64 ((k:Int) - 1))] H'
   |some t=>wC En (RD n) 98 18446744073709551616 (sub [1,1,1,0,1,0,0] (zp Tryz.f109)) [(0,.string s),(1,.int .i64 (at_:Int)),(4,.pointer (some ⟨B,0,none⟩)),(8,.int .i64 (k:Int))] H .ret [(4,.pointer (some ⟨B,0,none⟩)),(5,.int .i64 (k:Int))] (H'.put B (.row 199 [.int .i64 4,.int .i64 0,.string t,.int .i64 (at_:Int)] 0 false))):=by
 obtain⟨H',e1,g1,u1,nx1,w1⟩:=zkN H n hn
 have hBl:=za hB
 have gB:H'.get B=H.get B:=u1.get B hBl
 obtain⟨q,hq,hl⟩:=zkP s n at_ k B H.nx H' hlen hs (gB.trans hB) g1 vC 0 rfl
 have hq':q≤18446744073709551616:=by
  have:vC.length=17:=rfl
  omega
 have a0:decide ((k:Int)≥1)=true:=by simp only[decide_eq_true_eq];omega
 have a1:decide (((at_:Int)+(k:Int):Int)>s.data.toList.length)=false:=by simp only[decide_eq_false_iff_not];omega
 refine⟨H',gB,by omega,by omega,?_⟩
 split at hl
 ·rename_i e
  try rw[e]
  exact zqg H H' s B H.nx at_ k n hk (by omega) a0 a1 e1 (hl.fact' hq' ⟨by kernel_rfl,by kernel_rfl,by kernel_rfl,by kernel_rfl,by kernel_rfl,by kernel_rfl,trivial⟩)
 ·rename_i t e
  try rw[e]
  exact zsR H H' _ s B H.nx at_ k n hk (by omega) a0 a1 e1 (hl.fact' hq' ⟨by kernel_rfl,by kernel_rfl,by kernel_rfl,by kernel_rfl,by kernel_rfl,by kernel_rfl,trivial⟩)
theorem zqh(H:Heap)(hB:H.get B=some (.row 199 [.int .i64 0,.int .i64 0,.string ⟨#[]⟩,.int .i64 0] 0 false))(hw:B≤H.wm)(c:UInt8)(r:Bsy)(hl:s.data.toList.drop at_=c::r)(k2:kd c≠2)(k3:kd c≠3)(k4:kd c≠4):
  ∃ H' q,q≤3∧B≤H'.wm∧B < H'.nx∧(if kd c=5 then
    H'.get B=some (.row 199 [.int .i64 4,.int .i64 0,.string ⟨⟨(c::r).take (jZ (c::r))⟩⟩,.int .i64 (at_:Int)] 0 false)∧
    Loops En (RD n) 98 18446744073709551616 (sub [1,1,1,0,1,0,0] (zp Tryz.f109)) [(0,.string s),(1,.int .i64 (at_:Int)),(4,.pointer (some ⟨B,0,none⟩)),(8,.int .i64 ((2:Nat):Int))] H .ret [(4,.pointer (some ⟨B,0,none⟩)),(5,.int .i64 ((jZ (c::r):Nat):Int))] H' q
   else H'.get B=some (.row 199 [.int .i64 0,.int .i64 0,.string ⟨#[]⟩,.int .i64 0] 0 false)∧
    Loops En (RD n) 98 18446744073709551616 (sub [1,1,1,0,1,0,0] (zp Tryz.f109)) [(0,.string s),(1,.int .i64 (at_:Int)),(4,.pointer (some ⟨B,0,none⟩)),(8,.int .i64 ((2:Nat):Int))] H (.exit 3) [(4,.pointer (some ⟨B,0,none⟩))] H' q):=by
 have hlt:=jt hl
 have hlen:s.data.toList.length=at_+1+r.length:=by
  have:=congrArg List.length hl
  rw[List.length_drop,lC] at this;omega
 have one:∀ H1:Heap,H1.get B=H.get B→B≤H1.wm→∃ H' q,q≤2∧B≤H'.wm∧B < H'.nx∧(if kd c=5 then
    H'.get B=some (.row 199 [.int .i64 4,.int .i64 0,.string ⟨⟨[c]⟩⟩,.int .i64 (at_:Int)] 0 false)∧
    Loops En (RD n) 98 18446744073709551616 (sub [1,1,1,0,1,0,0] (zp Tryz.f109)) [(0,.string s),(1,.int .i64 (at_:Int)),(4,.pointer (some ⟨B,0,none⟩)),(8,.int .i64 ((1:Nat):Int))] H1 .ret [(4,.pointer (some ⟨B,0,none⟩)),(5,.int .i64 ((1:Nat):Int))] H' q
   else H'.get B=some (.row 199 [.int .i64 0,.int .i64 0,.string ⟨#[]⟩,.int .i64 0] 0 false)∧
    Loops En (RD n) 98 18446744073709551616 (sub [1,1,1,0,1,0,0] (zp Tryz.f109)) [(0,.string s),(1,.int .i64 (at_:Int)),(4,.pointer (some ⟨B,0,none⟩)),(8,.int .i64 ((1:Nat):Int))] H1 (.exit 3) [(4,.pointer (some ⟨B,0,none⟩))] H' q):=by
  intro H1 g1 w1
  obtain⟨H',gB,nx1,w2,hr⟩:=zgr s n at_ B hn hs 1 ⟨by omega,by omega⟩ H1 (g1.trans hB) (by omega) (by omega)
  have hBl:B < H'.nx:=nU (za (g1.trans hB)) nx1
  have ht:(s.data.toList.drop at_).take 1=[c]:=by rw[hl];rfl
  rw[ht] at hr
  by_cases h5:kd c=5
  ·rw[zcT (by rw[zs4];exact dT h5)] at hr
   refine⟨H'.put B (.row 199 [.int .i64 4,.int .i64 0,.string ⟨⟨[c]⟩⟩,.int .i64 (at_:Int)] 0 false),1,by omega,?_,?_,?_⟩
   ·rw[ze];omega
   ·rw[yh];exact hBl
   ·rw[if_pos h5]
    exact⟨zi _ _ _ hBl,.ret hr⟩
  ·rw[zcS (by rw[zs4];exact dF h5)] at hr
   refine⟨H',2,by omega,by omega,hBl,?_⟩
   rw[if_neg h5]
   exact⟨gB.trans (g1.trans hB),.on hr (.out (zsS H' s B at_ n))⟩
 match r,hl,hlen with
 |[],hl,hlen=>
  obtain⟨H',q,hq,w,nx,h⟩:=one H rfl hw
  have b1:=zqf H s B at_ 2 n ⟨by omega,by omega⟩ (by omega) (by rfl) (by simp only[decide_eq_true_eq];simp only[lN] at hlen;omega)
  refine⟨H',q+1,by omega,w,nx,?_⟩
  have hsn:jZ [c]=1:=by
   unfold jZ
   simp
  by_cases h5:kd c=5
  ·rw[if_pos h5] at h ⊢
   rw[hsn]
   exact⟨h.1,.on b1 h.2⟩
  ·rw[if_neg h5] at h ⊢
   exact⟨h.1,.on b1 h.2⟩
 |d::r,hl,hlen=>
  rw[lC] at hlen
  obtain⟨H1,gB,nx1,w2,hr⟩:=zgr s n at_ B hn hs 2 ⟨by omega,by omega⟩ H hB (by omega) (by omega)
  have hBl:B < H1.nx:=nU (za hB) nx1
  have ht:(s.data.toList.drop at_).take 2=[c,d]:=by rw[hl];rfl
  rw[ht] at hr
  rw[zkQ]
  by_cases h2:[c,d]=[60,62]∨[c,d]=[60,61]∨[c,d]=[62,61]
  ·rw[if_pos h2]
   rw[zcT (by rw[zs3];exact dT h2)] at hr
   have h5:kd c=5:=by
    rw[(uO c).2.2.2.2]
    rcases h2 with h|h|h
    ·obtain⟨rfl,_⟩:=List.cons.inj h;decide
    ·obtain⟨rfl,_⟩:=List.cons.inj h;decide
    ·obtain⟨rfl,_⟩:=List.cons.inj h;decide
   refine⟨H1.put B (.row 199 [.int .i64 4,.int .i64 0,.string ⟨⟨[c,d]⟩⟩,.int .i64 (at_:Int)] 0 false),1,by omega,?_,?_,?_⟩
   ·rw[ze];omega
   ·rw[yh];exact hBl
   ·rw[if_pos h5]
    exact⟨zi _ _ _ hBl,.ret hr⟩
  ·rw[if_neg h2]
   rw[zcS (by rw[zs3];exact dF h2)] at hr
   obtain⟨H',q,hq,w,nx,h⟩:=one H1 gB (by omega)
   refine⟨H',q+1,by omega,w,nx,?_⟩
   by_cases h5:kd c=5
   ·rw[if_pos h5] at h ⊢
    exact⟨h.1,.on hr h.2⟩
   ·rw[if_neg h5] at h ⊢
    exact⟨h.1,.on hr h.2⟩
end
theorem zhq(j:Nat):∀ (N:Nat) (r acc:Bsy) (i:Nat),r.length≤N→wW r acc (i+j)=(wW r acc i).map fun p=>(p.1,p.2+j):=by
 intro N
 induction N with
 |zero=>
  intro r acc i hr
  have:r=[]:=List.length_eq_zero_iff.1 (by omega)
  subst this;rfl
 |succ N ih=>
  intro r acc i hr
  match r with
  |[]=>rfl
  |[c]=>
   unfold wW
   split
   ·simp only[Option.map_some,sJ,pJ,true_and];omega
   ·rfl
  |c::d::r=>
   simp only[lC] at hr
   unfold wW
   split
   ·split
    ·rw[show i+j+2=i+2+j by omega];exact ih r _ _ (by omega)
    ·simp only[Option.map_some,sJ,pJ,true_and];omega
   ·rw[show i+j+1=i+1+j by omega];exact ih (d::r) _ _ (by simp only[lC];omega)
theorem zlK{c:UInt8}{k:Nat}(h:kd c=k):isD c=decide (k=2):=by unfold isD;rw[h];rfl
theorem zlJ{c:UInt8}{k:Nat}(h:kd c=k):isL c=decide (k=3):=by unfold isL;rw[h];rfl
theorem znV(s:BA)(at_:Nat)(h:Heap)(n:Nat)(hn:4≤n)(hs:s.data.toList.length≤4000)(hat:at_ < s.data.toList.length):
  RD n 109 [.string s,.int .i64 (at_:Int)] h=some (zjJ (s.data.toList.drop at_) at_,h):=by
 obtain⟨m,rfl⟩:=zs_ n
 generalize hg:(Heap.fh h).alloc (.row 199 [.int .i64 0,.int .i64 0,.string ⟨#[]⟩,.int .i64 0] 0 false)=g
 have gB:g.get (Heap.fh h).nx=some (.row 199 [.int .i64 0,.int .i64 0,.string ⟨#[]⟩,.int .i64 0] 0 false):=by rw[← hg];exact zb _ _
 have gw:g.wm=h.nx:=by rw[← hg];rfl
 have hN:(Heap.fh h).nx=h.nx:=rfl
 have hw:∀ o:AObj,h.nx≤(g.put (Heap.fh h).nx o).wm:=by
  intro o
  rw[ze,gw,hN];omega
 match hl:s.data.toList.drop at_ with
 |[]=>
  have:=ji hl
  omega
 |c::r=>
  have hb:=wD s at_ c r hl
  have a0:=zb1 c g m (by omega)
  have a1:=zfc c g m (by omega)
  rw[← hb] at a0 a1
  have hs2:s.data.toList.length < 4611686018427387904:=by omega
  have hlen:s.data.toList.length=at_+1+r.length:=by
   have:=congrArg List.length hl
   rw[List.length_drop,lC] at this;omega
  unfold zjJ zD
  simp only
  by_cases c2:kd c=2
  ·rw[if_pos c2]
   rw[zlK c2] at a0
   have hne:(c::r).takeWhile isD≠[]:=by
    rw[List.takeWhile_cons,if_pos (by rw[zlK c2];rfl)];simp
   have hpos:((c::r).takeWhile isD).length≠0:=by simpa using hne
   have hnum:=zqY s at_ g m (by omega) hs (by omega)
   rw[hl] at hnum
   cases hv:uL ((c::r).takeWhile isD) with
   |some v=>
    rw[hv] at hnum
    simp only
    rw[if_neg hpos]
    subst hg
    exact(zlw h s ⟨#[]⟩ at_ 1 (v:Int) (at_:Int) _ m hat hs2 a0 hnum).trans ((congrArg some (zk (hw _) rfl)).trans (by rfl))
   |none=>
    rw[hv] at hnum
    simp only
    first|rw[if_pos trivial]|rw[if_pos rfl]
    subst hg
    exact(zlw h s ⟨#[]⟩ at_ 0 0 0 0 m hat hs2 a0 hnum).trans ((congrArg some (zk (hw _) rfl)).trans (by rfl))
  ·rw[if_neg c2]
   have e0:isD c=false:=by unfold isD;simpa using c2
   rw[e0] at a0
   by_cases c4:kd c=4
   ·rw[if_pos c4]
    rw[zlJ c4] at a1
    have h34:c.toNat=34:=(uO c).2.2.2.1.1 c4
    have ht:=zqa s at_ g m (by omega) hs (by omega)
    rw[wN hl] at ht
    have hsh:=zhq at_ r.length r [] 1 (nL_ _)
    rw[Nat.add_comm 1 at_] at hsh
    rw[hsh] at ht
    cases hv:wW r [] 1 with
    |some p=>
     obtain⟨a,e⟩:=p
     rw[hv] at ht
     simp only[Option.map_some] at ht ⊢
     have hbd:=zaT r.length r [] 1 a e (nL_ _) hv
     rw[if_neg (by omega)]
     have he:(((e+at_:Nat):Int) - (at_:Int))=(e:Int):=by omega
     rw[he] at ht
     subst hg
     exact(zh4 h s ⟨⟨a⟩⟩ at_ 2 0 (at_:Int) (e:Int) m hat hs2 a0 a1 (by rw[hb];exact eqB h34) ht).trans ((congrArg some (zk (hw _) rfl)).trans (by rfl))
    |none=>
     rw[hv] at ht
     simp only[Option.map_none] at ht ⊢
     first|rw[if_pos trivial]|rw[if_pos rfl]
     subst hg
     exact(zh4 h s ⟨#[]⟩ at_ 0 0 0 0 m hat hs2 a0 a1 (by rw[hb];exact eqB h34) ht).trans ((congrArg some (zk (hw _) rfl)).trans (by rfl))
   ·rw[if_neg c4]
    have h34:¬ c.toNat=34:=fun h=>c4 ((uO c).2.2.2.1.2 h)
    by_cases c3:kd c=3
    ·rw[if_pos c3]
     rw[zlJ c3] at a1
     have hne:(c::r).takeWhile isW≠[]:=by
      rw[List.takeWhile_cons,if_pos (by unfold isW;rw[c3];rfl)];simp
     have hpos:((c::r).takeWhile isW).length≠0:=by simpa using hne
     rw[if_neg hpos]
     have htw:((c::r).takeWhile isW).length≤(c::r).length:=(List.takeWhile_prefix _).length_le
     rw[lC] at htw
     have hloop:=zjH s m (by omega) hs g at_ (Heap.fh h).nx (c::r) at_ hl
     have hcut:zv s (at_:Int) ((at_+((c::r).takeWhile isW).length:Nat):Int)=⟨⟨(c::r).takeWhile isW⟩⟩:=by
      unfold zv
      rw[Int.toNat_natCast,Int.toNat_natCast,hl,show at_+((c::r).takeWhile isW).length - at_=((c::r).takeWhile isW).length by omega,uF]
     have hu:=zp5 (zv s (at_:Int) ((at_+((c::r).takeWhile isW).length:Nat):Int)) g m (by omega) (by rw[hcut];show((c::r).takeWhile isW).length≤4000;omega)
     subst hg
     refine(zqW h s _ at_ _ m hat hs2 ⟨by omega,by omega⟩ a0 a1 (hloop.fact2 (by omega) (by kernel_rfl)) hu).trans ?_
     refine(congrArg some (zk (hw _) rfl)).trans ?_
     rw[hcut]
     have:((at_+((c::r).takeWhile isW).length:Nat):Int) - (at_:Int)=(((c::r).takeWhile isW).length:Int):=by omega
     rw[this];rfl
    ·rw[if_neg c3]
     have e1:isL c=false:=by unfold isL;simpa using c3
     rw[e1] at a1
     obtain⟨H',q,hq,w',nx',hso⟩:=zqh s m at_ (Heap.fh h).nx (by omega) hs g gB (by rw[gw,hN];omega) c r hl c2 c3 c4
     by_cases c5:kd c=5
     ·rw[if_pos c5] at hso ⊢
      have hsn:jZ (c::r)≠0:=by unfold jZ;split <;>omega
      rw[if_neg hsn]
      subst hg
      refine(ztN h H' s _ at_ (jZ (c::r)) m hat hs2 hso.1 a0 a1 (by rw[hb];exact zoG h34) (hso.2.fact2 (by omega) (by kernel_rfl))).trans ?_
      rw[zk (by omega) rfl];rfl
     ·rw[if_neg c5] at hso ⊢
      first|rw[if_pos trivial]|rw[if_pos rfl]
      subst hg
      refine(zqX h H' s at_ m hat hs2 hso.1 nx' a0 a1 (by rw[hb];exact zoG h34) (hso.2.fact2 (by omega) (by kernel_rfl))).trans ?_
      rw[zk (by rw[ze];omega) rfl];rfl
end Go.PanE
