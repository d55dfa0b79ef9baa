/-
 Part 42 of the proof of Rows.DumpLinesCardSaid. No conditions.
-/
import Derived.Test.YtihkphfmnnndfaaGreatDoorT41
namespace Go.PanE
open Go.Proofs
noncomputable section
abbrev zfM(h:Heap)(s:Bsy)(q:Nat):Heap:=al h.fh 72 (ndL (zg 5 s) (some ⟨q,0,none⟩) 2)
abbrev zfL:Vs:=[iv 0,iv 2,iv 2,iv 3,iv 5]
abbrev zeP(h:Heap)(s:Bsy)(q:Nat):Heap:=al (al (zfM h s q) 3 zfL) 3 [iv 0,iv 2,iv 3,iv 4,iv 4]
abbrev uK:Value:=.agg #[iv 0,iv 0,.string ⟨#[]⟩]
abbrev ug:Value:=.agg #[iv 0,iv 0,iv 0,iv 0]
abbrev ztM:Vs:=[.string ⟨#[35,68,73,86]⟩,.string ⟨#[35,79,86,69,82]⟩,.string ⟨#[35,84,89,80,69]⟩,.string ⟨#[35,82,69,70]⟩,.string ⟨#[35,65,82,71]⟩,.string ⟨#[35,76,79,79,80]⟩,.string ⟨#[35,76,79,78,71]⟩,.string ⟨#[35,78,79,78,69]⟩]
abbrev znR:Vs:=[iv 1,iv 1,iv 1,iv 1,iv 1,iv 1,iv 2,iv 2,iv 2,iv 3,iv 3,iv 3,iv 4]
abbrev znQ(d B:Nat)(acc:BA)(i:Nat):List (Nat×Value):=[(1,iv (d:Int)),(2,pv B 0),(7,.string acc),(8,iv (i:Int))]
abbrev ztL:Vs:=[.string ⟨#[70,65,76,83,69]⟩,.string ⟨#[84,82,85,69]⟩]
abbrev zaW(h:Heap)(x:Hd)(xr:OA)(xn:Nat):Heap:=al h.fh 72 (ndL x xr xn)
abbrev znP(v:Nat):Vs:=[iv 4,iv (v:Int),.string ⟨#[]⟩]
abbrev zjG(s acc:BA)(i:Nat):List (Nat×Value):=[(0,.string s),(3,.string acc),(4,iv (i:Int))]
variable (h h1 hL:Heap) (B d:Nat) (s acc:BA) (q i ab j v n:Nat) (t:BA) (x:Hd) (xr:OA) (b r c r1 c1:Int) (xn:Nat)
theorem zBh(a0:eqV 27 (.agg #[iv 2,iv b,.string ⟨#[]⟩]) uK=some (.bool false))(a1:eqV 43 ug ug=some (.bool true))(a2:decide ((b:Int)≥0)=true)(a3:Pu n 47 [.agg #[iv 2,iv b,.string ⟨#[]⟩]] (.bool true) (al h.fh 72 (ndL (zz 2 b []) xr 0))):Pu (n+1) 133 [ndV (zz 2 b []) xr 0] (.bool true) h:=
 fpV (kZ h) [aS 72 (ndL (zz 2 b []) xr 0),.g 0 27 1 3,yE a0,.g 0 43 4 4,yE a1,.l 0 3 0,bT,.l 0 3 1,bT,.l 0 2 2,yT a2,.g 0 27 1 3,yP a3,.l 0 9 8,bT,.l 0 70 9,bT,.z 0]
theorem zBe(s:Bsy)(a0:eqV 27 (.agg #[iv 3,iv 0,.string ⟨⟨s⟩⟩]) uK=some (.bool false))(a1:eqV 43 ug ug=some (.bool true))(a2:Pu n 47 [.agg #[iv 3,iv 0,.string ⟨⟨s⟩⟩]] (.bool true) (al h.fh 72 (ndL (zz 3 0 s) xr 0))):Pu (n+1) 133 [ndV (zz 3 0 s) xr 0] (.bool true) h:=
 fpV (kZ h) [aS 72 (ndL (zz 3 0 s) xr 0),.g 0 27 1 3,yE a0,.g 0 43 4 4,yE a1,.l 0 3 0,bT,.l 0 3 1,bF,.l 0 3 1,bT,.g 0 27 1 3,yP a2,.l 0 9 8,bT,.l 0 70 9,bT,.z 0]
theorem zBj(a0:eqV 27 (.agg #[iv 1,iv b,.string ⟨#[]⟩]) uK=some (.bool false))(a1:eqV 43 ug ug=some (.bool true))(a2:Pu n 47 [.agg #[iv 1,iv b,.string ⟨#[]⟩]] (.bool true) (al h.fh 72 (ndL (zz 1 b []) xr 0))):Pu (n+1) 133 [ndV (zz 1 b []) xr 0] (.bool true) h:=
 fpV (kZ h) [aS 72 (ndL (zz 1 b []) xr 0),.g 0 27 1 3,yE a0,.g 0 43 4 4,yE a1,.l 0 3 0,bT,.l 0 3 1,bF,.l 0 3 1,bF,.l 0 3 1,bT,.g 0 27 1 3,yP a2,.l 0 9 8,bT,.l 0 70 9,bT,.z 0]
theorem zBf(a0:eqV 27 uK uK=some (.bool true))(a1:eqV 43 (.agg #[iv r,iv c,iv 0,iv 0]) ug=some (.bool false))(a2:Pu n 21 [.agg #[iv r,iv c]] (.bool true) (al h.fh 72 (ndL (zF 2 r c 0 0) xr 0)))(a3:eqV 29 (.agg #[iv 0,iv 0]) (.agg #[iv 0,iv 0])=some (.bool true)):Pu (n+1) 133 [ndV (zF 2 r c 0 0) xr 0] (.bool true) h:=
 fpV (kZ h) [aS 72 (ndL (zF 2 r c 0 0) xr 0),.g 0 27 1 3,yE a0,.g 0 43 4 4,yE a1,.l 0 3 0,bF,bT,.g 0 29 4 2,yP a2,.g 0 29 6 2,yE a3,.l 0 9 8,bT,.l 0 70 9,bT,.z 0]
theorem zxm(a0:eqV 27 uK uK=some (.bool true))(a1:eqV 43 (.agg #[iv r,iv c,iv r1,iv c1]) ug=some (.bool false))(a2:Pu n 167 [.agg #[iv r,iv c,iv r1,iv c1]] (.bool true) (al h.fh 72 (ndL (zF 3 r c r1 c1) xr 0))):Pu (n+1) 133 [ndV (zF 3 r c r1 c1) xr 0] (.bool true) h:=
 fpV (kZ h) [aS 72 (ndL (zF 3 r c r1 c1) xr 0),.g 0 27 1 3,yE a0,.g 0 43 4 4,yE a1,.l 0 3 0,bF,bF,bT,.g 0 43 4 4,yP a2,.l 0 9 8,bT,.l 0 70 9,bT,.z 0]
theorem zBg(xr:OA)(q:Nat)(a0:eqV 27 uK uK=some (.bool true))(a1:eqV 43 ug ug=some (.bool true)):Pu (n+1) 133 [ndV (zg 4 []) (some ⟨q,0,none⟩) 1] (.bool true) h:=
 fpV (kZ h) [aS 72 (ndL (zg 4 []) (some ⟨q,0,none⟩) 1),.g 0 27 1 3,yE a0,.g 0 43 4 4,yE a1,.l 0 3 0,bF,bF,bF,bT,.l 0 9 8,bT,.l 0 70 9,bT,.z 0]
theorem zBk(xr:OA)(q:Nat)(s:Bsy)(a0:eqV 27 uK uK=some (.bool true))(a1:eqV 43 ug ug=some (.bool true))(a2:Pu n 168 [.string ⟨⟨s⟩⟩] (.bool true) (zfM h s q)):Pu (n+1) 133 [ndV (zg 5 s) (some ⟨q,0,none⟩) 2] (.bool true) h:=
 fpV (kZ h) [aS 72 (ndL (zg 5 s) (some ⟨q,0,none⟩) 2),.g 0 27 1 3,yE a0,.g 0 43 4 4,yE a1,.l 0 3 0,bF,bF,bF,bF,bT,.l 0 9 8,yP a2,.l 0 70 9,bT,.z 0]
theorem zBi(s:Bsy)(a0:eqV 27 uK uK=some (.bool true))(a1:eqV 43 ug ug=some (.bool true))(a2:Pu n 169 [.string ⟨⟨s⟩⟩] (.bool true) (al h.fh 72 (ndL (zg 6 s) xr xn)))(a3:decide ((xn:Int)≤10)=true):Pu (n+1) 133 [ndV (zg 6 s) xr xn] (.bool true) h:=
 fpV (kZ h) [aS 72 (ndL (zg 6 s) xr xn),.g 0 27 1 3,yE a0,.g 0 43 4 4,yE a1,.l 0 3 0,bF,bF,bF,bF,bF,bT,.l 0 9 8,yP a2,.l 0 70 9,yT a3,.z 0]
theorem zxl(a0:Pu n 21 [.agg #[iv r,iv c]] (.bool true) (al h.fh 43 [iv r,iv c,iv r1,iv c1]))(a1:Pu n 21 [.agg #[iv r1,iv c1]] (.bool true) (al h.fh 43 [iv r,iv c,iv r1,iv c1]))(a2:decide ((r:Int)≤r1)=true)(a3:decide ((c:Int)≤c1)=true):Pu (n+1) 167 [.agg #[iv r,iv c,iv r1,iv c1]] (.bool true) h:=
 fpV (kZ h) [aS 43 [iv r,iv c,iv r1,iv c1],.g 0 29 0 2,yP a0,.g 0 29 2 2,yP a1,.l 0 3 0,.l 0 3 2,yT a2,.l 0 3 1,.l 0 3 3,yT a3,.z 0]
theorem zz1:Fn n 170 [] h (sv h.nx 0 13 13) (al h.fh 9 zar):=
 fnV (kZ h) [aS 9 zar,.z 0]
theorem zyV(q i n:Nat)(_h1:i < 13)(a0:decide ((i:Int) < 13)=true)(a1:LD h 9 q (0+i * 1) (.string t))(a2:bqS t s=true):Bd n 18 [1,1,0,1,0,0] Tryz.f168 [(0,.string s),(3,sv q 0 13 13),(4,iv (i:Int))] h .ret [(2,.bool true)] h:=
 bdF (kZ h) [yT a0,iA 32 9 1 q 13 i,yE a1,yT a2,.z 0]
theorem zyX(q i n:Nat)(_h1:i < 13)(a0:decide ((i:Int) < 13)=true)(a1:LD h 9 q (0+i * 1) (.string t))(a2:bqS t s=false):Bd n 18 [1,1,0,1,0,0] Tryz.f168 [(0,.string s),(3,sv q 0 13 13),(4,iv (i:Int))] h .normal [(0,.string s),(3,sv q 0 13 13),(4,iv ((i:Int)+1))] h:=
 bdF (kZ h) [yT a0,iA 32 9 1 q 13 i,yE a1,yF a2,yW ((i:Int)+1),.z 0]
theorem zyW(a0:RD n 170 [] h.fh=some (sv q 0 13 13,h1))(a1:Lf n 18 [1,1,0,1,0,0] Tryz.f168 [(0,.string s),(2,.bool false),(5,sv q 0 13 13),(3,sv q 0 13 13),(4,iv 0)] h1 .ret [(2,.bool true)] h1):Fn n 168 [.string s] h (.bool true) h1:=
 fnV (kZ h) [yC a0 (kZ h1),yS a1 (kZ h1),.z 0]
theorem zsp(a0:decide ((i:Int) < s.data.toList.length)=false):Bd n 51 [1,1,0,1,0,0] Tryz.f169 [(0,.string s),(3,iv (i:Int))] h (.exit 0) [] h:=
 bdF (kZ h) [yF a0]
theorem zya(_hk:i < s.data.toList.length)(_hl:s.data.toList.length < 4000)(a0:decide ((i:Int) < s.data.toList.length)=true)(a1:decide (((bAt s (i:Int):Int):Int)≥65)=true)(a2:decide (((bAt s (i:Int):Int):Int)≤90)=true):Bd n 51 [1,1,0,1,0,0] Tryz.f169 [(0,.string s),(3,iv (i:Int))] h .normal [(0,.string s),(3,iv ((i:Int)+1))] h:=
 bdF (kZ h) [yT a0,yI 9 s (i:Int),yT a1,yI 9 s (i:Int),yT a2,yW ((i:Int)+1),.z 0]
theorem zyb(_hk:i < s.data.toList.length)(_hl:s.data.toList.length < 4000)(a0:decide ((i:Int) < s.data.toList.length)=true)(a1:decide (((bAt s (i:Int):Int):Int)≥65)=false)(a2:decide (((bAt s (i:Int):Int):Int)≥48)=true)(a3:decide (((bAt s (i:Int):Int):Int)≤57)=true):Bd n 51 [1,1,0,1,0,0] Tryz.f169 [(0,.string s),(3,iv (i:Int))] h .normal [(0,.string s),(3,iv ((i:Int)+1))] h:=
 bdF (kZ h) [yT a0,yI 9 s (i:Int),yF a1,yI 9 s (i:Int),yT a2,yI 9 s (i:Int),yT a3,yW ((i:Int)+1),.z 0]
theorem zx9(_h0:0 < s.data.toList.length)(_hl:s.data.toList.length < 4000)(a0:decide ((s.data.toList.length:Int) < 1)=false)(a1:decide ((s.data.toList.length:Int)>8)=false)(a2:decide (((bAt s 0:Int):Int) < 65)=false)(a3:decide (((bAt s 0:Int):Int)>90)=false)(a4:Lf n 51 [1,1,0,1,0,0] Tryz.f169 [(0,.string s),(2,.bool false),(4,.string s),(5,iv s.data.toList.length),(6,.bool false),(7,.bool false),(8,.string s),(9,iv s.data.toList.length),(10,.bool false),(11,.bool false),(12,.bool false),(13,.string s),(14,.int .u8 (bAt s 0:Int)),(15,.bool false),(16,.bool false),(17,.bool false),(18,.string s),(19,.int .u8 (bAt s 0:Int)),(20,.bool false),(21,.bool false),(3,iv 0)] h.fh (.exit 0) [] h.fh):Pu (n+1) 169 [.string s] (.bool true) h:=
 fpV (kZ h) [yF a0,yF a1,yI 9 s 0,yF a2,yI 9 s 0,yF a3,yS a4 (kZ h.fh),.z 0]
theorem zug(rq:OA)(j i n:Nat)(a0:decide ((i:Int) < j)=false):Bd n 35 [1,1,1,1,0,1,0,0] Tryz.f99 [(4,.slice rq j j),(5,iv (i:Int))] h (.exit 0) [] h:=
 bdF (kZ h) [yF a0]
theorem zxb(i j2 l n:Nat)(q2 xr2:OA)(x:Hd)(xr:OA)(xn:Nat)(_h1:i < j)(_h2:j < 4000)(a0:decide ((i:Int) < j)=true)(a1:LD h 72 q (0+i * 10) (ndV x xr xn))(a2:Pu n 133 [ndV x xr xn] (.bool true) h)(a3:LD h 70 q ((0+i * 10)+9) (.slice xr2 l l))(a4:zu En h #[70,70] (sv q 0 j j) (.slice xr2 l l)=some (.slice q2 j2 j2,h1)):Bd n 35 [1,1,1,1,0,1,0,0] Tryz.f99 [(4,sv q 0 j j),(5,iv (i:Int))] h .normal [(4,.slice q2 j2 j2),(5,iv ((i:Int)+1))] h1:=
 bdF (kZ h) [yT a0,iA 70 72 10 q j i,yE a1,yP a2,iA 70 72 10 q j i,yE a3,yC a4 (kZ h1),yW ((i:Int)+1),.z 0]
theorem zA7(a0:Pu n 80 [ndV x xr xn] (iv (d:Int)) (zaW h x xr xn))(a1:decide ((d:Int) < 1)=false)(a2:decide ((d:Int)>16)=false)(a3:Lf n 35 [1,1,1,1,0,1,0,0] Tryz.f99 [(0,ndV x xr xn),(1,pv h.nx 0),(2,.bool false),(6,ndV x xr xn),(7,iv (d:Int)),(3,iv (d:Int)),(8,iv (d:Int)),(9,.bool false),(10,.bool false),(11,iv (d:Int)),(12,.bool false),(13,.bool false),(14,ndV x xr xn),(15,sv (h.nx+1) 0 1 1),(4,sv (h.nx+1) 0 1 1),(5,iv 0)] (al (zaW h x xr xn) 72 (ndL x xr xn)) (.exit 0) [] hL):Fn n 99 [ndV x xr xn] h (.bool true) hL:=
 fnV (kZ h) [aS 72 (ndL x xr xn),.g 0 72 0 10,yP a0,yF a1,yF a2,.g 0 72 0 10,aS 72 (ndL x xr xn),yS a3 (kZ hL),.z 0]
theorem znf:Pu (n+1) 136 [ndV (hk 1 x) xr xn] (iv 6) h:=
 fpV (kZ h) [aS 72 (ndL (hk 1 x) xr xn),.l 0 3 0,bT,.z 0]
theorem zzi:Pu (n+1) 136 [ndV (hk 2 x) xr xn] (iv 6) h:=
 fpV (kZ h) [aS 72 (ndL (hk 2 x) xr xn),.l 0 3 0,bF,bT,.z 0]
theorem zzh:Pu (n+1) 136 [ndV (hk 3 x) xr xn] (iv 6) h:=
 fpV (kZ h) [aS 72 (ndL (hk 3 x) xr xn),.l 0 3 0,bF,bF,bT,.z 0]
theorem zze:Pu (n+1) 136 [ndV (hk 6 x) xr xn] (iv 6) h:=
 fpV (kZ h) [aS 72 (ndL (hk 6 x) xr xn),.l 0 3 0,bF,bF,bF,bT,.z 0]
theorem zzg:Pu (n+1) 136 [ndV (hk 4 x) xr xn] (iv 5) h:=
 fpV (kZ h) [aS 72 (ndL (hk 4 x) xr xn),.l 0 3 0,bF,bF,bF,bF,bT,.z 0]
theorem zzq(hB:h.get B=some (.row 72 (ndL (hk 5 x) xr xn) 0 false))(_h1:i < 13)(a0:decide ((i:Int) < 13)=true)(a1:LD h 9 q (0+i * 1) (.string t))(a2:bqS t x.nm=false):Bd n 34 [1,0,1,0,1,1,1,1,1,0,1,1,0,0] Tryz.f136 [(1,pv B 0),(3,sv q 0 13 13),(4,iv (i:Int))] h .normal [(1,pv B 0),(3,sv q 0 13 13),(4,iv ((i:Int)+1))] h:=
 bdF (kI (ko hB)) [yT a0,iA 32 9 1 q 13 i,yE a1,.l 0 9 8,yF a2,yN h.nx,.q (yE a1),.q (.l 0 9 8),yW ((i:Int)+1),.z 0]
theorem zzp(v:Nat)(hB:h.get B=some (.row 72 (ndL (hk 5 x) xr xn) 0 false))(_h1:i < 13)(a0:decide ((i:Int) < 13)=true)(a1:LD h 9 q (0+i * 1) (.string t))(a2:bqS t x.nm=true)(a3:LD (al h 3 znR) 3 h.nx (0+i * 1) (iv (v:Int))):Bd n 34 [1,0,1,0,1,1,1,1,1,0,1,1,0,0] Tryz.f136 [(1,pv B 0),(3,sv q 0 13 13),(4,iv (i:Int))] h .ret [(2,iv (v:Int))] (al h 3 znR):=
 bdF (kI (ko hB)) [yT a0,iA 32 9 1 q 13 i,yE a1,.l 0 9 8,yT a2,yN h.nx,.q (yE a1),.q (.l 0 9 8),aS 3 znR,iA 221 3 1 h.nx 13 i,yE a3,.z 0]
theorem zzf(a0:RD n 170 [] (al h.fh 72 (ndL (hk 5 x) xr xn))=some (sv q 0 13 13,h1))(a1:Lf n 34 [1,0,1,0,1,1,1,1,1,0,1,1,0,0] Tryz.f136 [(0,ndV (hk 5 x) xr xn),(1,pv h.nx 0),(2,iv 0),(5,pv h.nx 0),(6,iv 5),(8,.bool false),(7,.bool false),(9,.bool false),(10,.bool false),(11,.bool false),(13,.bool false),(12,.bool false),(15,.bool true),(14,.bool true),(16,sv q 0 13 13),(3,sv q 0 13 13),(4,iv 0)] h1 .ret [(2,iv (v:Int))] hL):Fn n 136 [ndV (hk 5 x) xr xn] h (iv (v:Int)) hL:=
 fnV (kZ h) [aS 72 (ndL (hk 5 x) xr xn),.l 0 3 0,bF,bF,bF,bF,bF,bT,yC a0 (kZ h1),yS a1 (kZ hL),.z 0]
theorem zBX(r R d n:Nat)(t:BA)(x:Hd)(xr:OA)(xn:Nat)(_h:t.size≤1000000)(a0:Pu n 136 [ndV x xr xn] (iv (r:Int)) (zaW h x xr xn))(a1:decide ((r:Int) < (R:Int))=true)(a2:Pu n 100 [ndV x xr xn,iv (d:Int)] (.string t) (zaW h x xr xn)):Pu (n+1) 135 [ndV x xr xn,iv (R:Int),iv (d:Int)] (.string ((⟨#[40]⟩++t)++⟨#[41]⟩)) h:=
 fpV (kZ h) [aS 72 (ndL x xr xn),.g 0 72 0 10,yP a0,yT a1,.g 0 72 0 10,yP a2,yG ⟨#[40]⟩ t,yG (⟨#[40]⟩++t) ⟨#[41]⟩,.z 0]
theorem zBY(r R d n:Nat)(t:BA)(x:Hd)(xr:OA)(xn:Nat)(a0:Pu n 136 [ndV x xr xn] (iv (r:Int)) (zaW h x xr xn))(a1:decide ((r:Int) < (R:Int))=false)(a2:Pu n 100 [ndV x xr xn,iv (d:Int)] (.string t) (zaW h x xr xn)):Pu (n+1) 135 [ndV x xr xn,iv (R:Int),iv (d:Int)] (.string t) h:=
 fpV (kZ h) [aS 72 (ndL x xr xn),.g 0 72 0 10,yP a0,yF a1,.g 0 72 0 10,yP a2,.z 0]
theorem zyH(t:BA)(a0:decide ((d:Int)>20)=false)(a1:Pu n 42 [iv b] (.string t) (al h.fh 72 (ndL (zz 2 b []) xr 0))):Pu (n+1) 100 [ndV (zz 2 b []) xr 0,iv (d:Int)] (.string t) h:=
 fpV (kZ h) [aS 72 (ndL (zz 2 b []) xr 0),yF a0,.l 0 3 0,bT,.l 0 3 1,bF,.l 0 3 1,bF,.l 0 2 2,yP a1,.z 0]
theorem zyE(s:Bsy)(t:BA)(a0:decide ((d:Int)>20)=false)(a1:Pu n 134 [.string ⟨⟨s⟩⟩] (.string t) (al h.fh 72 (ndL (zz 3 0 s) xr 0))):Pu (n+1) 100 [ndV (zz 3 0 s) xr 0,iv (d:Int)] (.string t) h:=
 fpV (kZ h) [aS 72 (ndL (zz 3 0 s) xr 0),yF a0,.l 0 3 0,bT,.l 0 3 1,bT,.l 0 9 3,yP a1,.z 0]
theorem zyL(a0:decide ((d:Int)>20)=false):Pu (n+1) 100 [ndV (zz 1 0 []) xr 0,iv (d:Int)] (.string ⟨#[70,65,76,83,69]⟩) h:=
 fpV (kZ h) [aS 72 (ndL (zz 1 0 []) xr 0),yF a0,.l 0 3 0,bT,.l 0 3 1,bF,.l 0 3 1,bT,aS 9 ztL,.l 0 2 2,yV (pv (h.nx+1) 0),.l 1 9 0,.z 0]
theorem zyK(a0:decide ((d:Int)>20)=false):Pu (n+1) 100 [ndV (zz 1 1 []) xr 0,iv (d:Int)] (.string ⟨#[84,82,85,69]⟩) h:=
 fpV (kZ h) [aS 72 (ndL (zz 1 1 []) xr 0),yF a0,.l 0 3 0,bT,.l 0 3 1,bF,.l 0 3 1,bT,aS 9 ztL,.l 0 2 2,yV (pv (h.nx+1) 1),.l 1 9 1,.z 0]
theorem zyF(t:BA)(a0:decide ((d:Int)>20)=false)(a1:Pu n 23 [.agg #[iv r,iv c]] (.string t) (al h.fh 72 (ndL (zF 2 r c 0 0) xr 0))):Pu (n+1) 100 [ndV (zF 2 r c 0 0) xr 0,iv (d:Int)] (.string t) h:=
 fpV (kZ h) [aS 72 (ndL (zF 2 r c 0 0) xr 0),yF a0,.l 0 3 0,bF,bT,.g 0 29 4 2,yP a1,.z 0]
theorem zvz(t u:BA)(_h:t.size≤100)(_h2:u.size≤100)(a0:decide ((d:Int)>20)=false)(a1:Pu n 23 [.agg #[iv r,iv c]] (.string t) (al h.fh 72 (ndL (zF 3 r c r1 c1) xr 0)))(a2:Pu n 23 [.agg #[iv r1,iv c1]] (.string u) (al h.fh 72 (ndL (zF 3 r c r1 c1) xr 0))):Pu (n+1) 100 [ndV (zF 3 r c r1 c1) xr 0,iv (d:Int)] (.string ((t++⟨#[58]⟩)++u)) h:=
 fpV (kZ h) [aS 72 (ndL (zF 3 r c r1 c1) xr 0),yF a0,.l 0 3 0,bF,bF,bT,.g 0 29 4 2,yP a1,yG t ⟨#[58]⟩,.g 0 29 6 2,yP a2,yG (t++⟨#[58]⟩) u,yN (h.nx+1),.q (.g 0 29 4 2),.q (.g 0 29 6 2),.q (.g 0 29 6 2),.z 0]
theorem zyG(xr:OA)(q:Nat)(y:Hd)(yr:OA)(yn:Nat)(t:BA)(_h:t.size≤1000000)(_hd:d≤20)(a0:decide ((d:Int)>20)=false)(a1:LD (al h.fh 72 (ndL (zg 4 []) (some ⟨q,0,none⟩) 1)) 72 q 0 (ndV y yr yn))(a2:Pu n 135 [ndV y yr yn,iv 5,iv ((d:Int)+1)] (.string t) (al h.fh 72 (ndL (zg 4 []) (some ⟨q,0,none⟩) 1))):Pu (n+1) 100 [ndV (zg 4 []) (some ⟨q,0,none⟩) 1,iv (d:Int)] (.string (⟨#[45]⟩++t)) h:=
 fpV (kZ h) [aS 72 (ndL (zg 4 []) (some ⟨q,0,none⟩) 1),yF a0,.l 0 3 0,bF,bF,bF,bT,.l 0 70 9,yV (pv q 0),yE a1,yW ((d:Int)+1),yP a2,yG ⟨#[45]⟩ t,.z 0]
theorem zyJ(xr:OA)(q r A B2:Nat)(s:Bsy)(y w:Hd)(yr wr:OA)(yn wn:Nat)(t u:BA)(_h:t.size≤1000000)(_h2:u.size≤1000000)(_hr:r < 5)(_h3:(⟨⟨s⟩⟩:BA).size≤100)(_hd:d≤20)(a0:decide ((d:Int)>20)=false)(a1:Pu n 136 [ndV (zg 5 s) (some ⟨q,0,none⟩) 2] (iv (r:Int)) (al (zfM h s q) 3 zfL))(a2:LD (al (zfM h s q) 3 zfL) 3 (h.nx+1) (0+r * 1) (iv (A:Int)))(a3:Pu n 136 [ndV (zg 5 s) (some ⟨q,0,none⟩) 2] (iv (r:Int)) (zeP h s q))(a4:LD (zeP h s q) 3 (h.nx+2) (0+r * 1) (iv (B2:Int)))(a5:LD (zeP h s q) 72 q 0 (ndV y yr yn))(a6:Pu n 135 [ndV y yr yn,iv (A:Int),iv ((d:Int)+1)] (.string t) (zeP h s q))(a7:LD (zeP h s q) 72 q 10 (ndV w wr wn))(a8:Pu n 135 [ndV w wr wn,iv (B2:Int),iv ((d:Int)+1)] (.string u) (zeP h s q)):Pu (n+1) 100 [ndV (zg 5 s) (some ⟨q,0,none⟩) 2,iv (d:Int)] (.string ((t++⟨⟨s⟩⟩)++u)) h:=
 fpV (kZ h) [aS 72 (ndL (zg 5 s) (some ⟨q,0,none⟩) 2),yF a0,.l 0 3 0,bF,bF,bF,bF,bT,aS 3 zfL,.g 0 72 0 10,yP a1,iA 221 3 1 (h.nx+1) 5 r,yE a2,aS 3 [iv 0,iv 2,iv 3,iv 4,iv 4],.g 0 72 0 10,yP a3,iA 221 3 1 (h.nx+2) 5 r,yE a4,.l 0 70 9,yV (pv q 0),yE a5,yW ((d:Int)+1),yP a6,.l 0 9 8,yG t ⟨⟨s⟩⟩,.l 0 70 9,yV (pv q 10),yE a7,yW ((d:Int)+1),yP a8,yG (t++⟨⟨s⟩⟩) u,yN (h.nx+3),.q (.l 0 70 9),.q (yE a5),.q (.l 0 9 8),.q (.l 0 9 8),.q (.l 0 9 8),.q (.l 0 70 9),.q (.l 0 70 9),.q (yE a7),.q (yE a7),.z 0]
theorem zkF(n:Nat)(xr:OA)(s:Bsy)(acc:BA)(hB:h.get B=some (.row 72 (ndL (zg 6 s) xr xn) 0 false))(a0:decide ((i:Int) < xn)=false):Bd n 123 [1,1,1,1,0,1,0,0] Tryz.f100 (znQ d B acc i) h (.exit 1) [(7,.string acc)] h:=
 bdF (kI (ko hB)) [.l 0 70 9,yF a0,.z 0]
theorem zyB(s:Bsy)(acc t:BA)(y:Hd)(yr:OA)(yn:Nat)(hB:h.get B=some (.row 72 (ndL (zg 6 s) (some ⟨ab,0,none⟩) j) 0 false))(_h1:i < j)(_h2:j < 4000)(_h3:acc.size≤1000000)(_h4:t.size≤1000000)(_hd:d≤20)(a0:decide ((i:Int) < j)=true)(a1:decide ((i:Int)>0)=false)(a2:LD h 72 ab (0+i * 10) (ndV y yr yn))(a3:Pu n 100 [ndV y yr yn,iv ((d:Int)+1)] (.string t) h):Bd n 123 [1,1,1,1,0,1,0,0] Tryz.f100 (znQ d B acc i) h .normal [(1,iv (d:Int)),(2,pv B 0),(7,.string (acc++t)),(8,iv ((i:Int)+1))] h:=
 bdF (kI (ko hB)) [.l 0 70 9,yT a0,yF a1,.l 0 70 9,iA 70 72 10 ab j i,yE a2,yW ((d:Int)+1),yP a3,yG acc t,yW ((i:Int)+1),.z 0]
theorem zyA(s:Bsy)(acc t:BA)(y:Hd)(yr:OA)(yn:Nat)(hB:h.get B=some (.row 72 (ndL (zg 6 s) (some ⟨ab,0,none⟩) j) 0 false))(_h1:i < j)(_h2:j < 4000)(_h3:acc.size≤1000000)(_h4:t.size≤1000000)(_hd:d≤20)(a0:decide ((i:Int) < j)=true)(a1:decide ((i:Int)>0)=true)(a2:LD h 72 ab (0+i * 10) (ndV y yr yn))(a3:Pu n 100 [ndV y yr yn,iv ((d:Int)+1)] (.string t) h):Bd n 123 [1,1,1,1,0,1,0,0] Tryz.f100 (znQ d B acc i) h .normal [(1,iv (d:Int)),(2,pv B 0),(7,.string ((acc++⟨#[44]⟩)++t)),(8,iv ((i:Int)+1))] h:=
 bdF (kI (ko hB)) [.l 0 70 9,yT a0,yT a1,yG acc ⟨#[44]⟩,.l 0 70 9,iA 70 72 10 ab j i,yE a2,yW ((d:Int)+1),yP a3,yG (acc++⟨#[44]⟩) t,yW ((i:Int)+1),.z 0]
theorem zyI(s:Bsy)(acc:BA)(_h:acc.size≤1000000)(_h3:(⟨⟨s⟩⟩:BA).size≤100)(a0:decide ((d:Int)>20)=false)(a1:Lf n 123 [1,1,1,1,0,1,0,0] Tryz.f100 [(0,ndV (zg 6 s) xr xn),(1,iv (d:Int)),(2,pv h.nx 0),(4,.string ⟨#[]⟩),(9,iv (d:Int)),(10,.bool false),(11,pv h.nx 0),(12,iv 6),(14,.bool false),(13,.bool false),(38,.bool false),(37,.bool false),(44,.bool false),(43,.bool false),(56,.bool false),(55,.bool false),(66,.bool false),(65,.bool false),(97,pv h.nx 8),(98,.string ⟨⟨s⟩⟩),(99,.string (⟨⟨s⟩⟩++⟨#[40]⟩)),(7,.string (⟨⟨s⟩⟩++⟨#[40]⟩)),(8,iv 0)] (al h.fh 72 (ndL (zg 6 s) xr xn)) (.exit 1) [(7,.string acc)] (al h.fh 72 (ndL (zg 6 s) xr xn))):Pu (n+1) 100 [ndV (zg 6 s) xr xn,iv (d:Int)] (.string (acc++⟨#[41]⟩)) h:=
 fpV (kZ h) [aS 72 (ndL (zg 6 s) xr xn),yF a0,.l 0 3 0,bF,bF,bF,bF,bF,.l 0 9 8,yG ⟨⟨s⟩⟩ ⟨#[40]⟩,yS a1 (kZ (al h.fh 72 (ndL (zg 6 s) xr xn))),yG acc ⟨#[41]⟩,.z 0]
theorem zyx(s:BA)(x:Hd)(xr:OA)(xn:Nat)(a0:Pu n 99 [ndV x xr xn] (.bool true) (zaW h x xr xn))(a1:Pu n 100 [ndV x xr xn,iv 0] (.string s) (zaW h x xr xn))(a2:decide ((s.data.toList.length:Int)>300)=true):Pu (n+1) 66 [ndV x xr xn] (.tuple #[.string ⟨#[]⟩,iv 2]) h:=
 fpT (kZ h) [aS 72 (ndL x xr xn),.g 0 72 0 10,yP a0,.g 0 72 0 10,yP a1,yT a2,.z 0]
theorem zyy(s:BA)(x:Hd)(xr:OA)(xn:Nat)(a0:Pu n 99 [ndV x xr xn] (.bool true) (zaW h x xr xn))(a1:Pu n 100 [ndV x xr xn,iv 0] (.string s) (zaW h x xr xn))(a2:decide ((s.data.toList.length:Int)>300)=false):Pu (n+1) 66 [ndV x xr xn] (.tuple #[.string s,iv 0]) h:=
 fpT (kZ h) [aS 72 (ndL x xr xn),.g 0 72 0 10,yP a0,.g 0 72 0 10,yP a1,yF a2,.z 0]
theorem ztt(a0:decide ((i:Int) < s.data.toList.length)=false):Bd n 26 [1,1,0,1,0,0] Tryz.f134 (zjG s acc i) h (.exit 0) [(3,.string acc)] h:=
 bdF (kZ h) [yF a0,.z 0]
theorem zzO(_hk:i < s.data.toList.length)(_hl:s.data.toList.length < 4000)(_h3:acc.size≤100000)(_h4:(zv s (i:Int) ((i:Int)+1)).size≤10)(a0:decide ((i:Int) < s.data.toList.length)=true)(a1:(((bAt s (i:Int):Int):Int)==34)=false):Bd n 26 [1,1,0,1,0,0] Tryz.f134 (zjG s acc i) h .normal [(0,.string s),(3,.string (acc++(zv s (i:Int) ((i:Int)+1)))),(4,iv ((i:Int)+1))] h:=
 bdF (kZ h) [yT a0,yI 9 s (i:Int),yF a1,yW ((i:Int)+1),cB 9 s (i:Int) ((i:Int)+1),yG acc (zv s (i:Int) ((i:Int)+1)),yW ((i:Int)+1),.z 0]
theorem zzM(_hk:i < s.data.toList.length)(_hl:s.data.toList.length < 4000)(_h3:acc.size≤100000)(_h4:(zv s (i:Int) ((i:Int)+1)).size≤10)(a0:decide ((i:Int) < s.data.toList.length)=true)(a1:(((bAt s (i:Int):Int):Int)==34)=true):Bd n 26 [1,1,0,1,0,0] Tryz.f134 (zjG s acc i) h .normal [(0,.string s),(3,.string ((acc++⟨#[34]⟩)++(zv s (i:Int) ((i:Int)+1)))),(4,iv ((i:Int)+1))] h:=
 bdF (kZ h) [yT a0,yI 9 s (i:Int),yT a1,yG acc ⟨#[34]⟩,yW ((i:Int)+1),cB 9 s (i:Int) ((i:Int)+1),yG (acc++⟨#[34]⟩) (zv s (i:Int) ((i:Int)+1)),yW ((i:Int)+1),.z 0]
theorem zzN(_h:acc.size≤100000)(a0:Lf n 26 [1,1,0,1,0,0] Tryz.f134 [(0,.string s),(2,.string ⟨#[]⟩),(3,.string ⟨#[34]⟩),(4,iv 0)] h.fh (.exit 0) [(3,.string acc)] h.fh):Pu (n+1) 134 [.string s] (.string (acc++⟨#[34]⟩)) h:=
 fpV (kZ h) [yS a0 (kZ h.fh),yG acc ⟨#[34]⟩,.z 0]
theorem zyM(k v:Int)(s:BA)(a0:Pu n 47 [.agg #[iv k,iv v,.string s]] (.bool false) (al h.fh 27 [iv k,iv v,.string s])):Pu (n+1) 26 [.agg #[iv k,iv v,.string s]] (.string ⟨#[63]⟩) h:=
 fpV (kZ h) [aS 27 [iv k,iv v,.string s],.g 0 27 0 3,yP a0,.z 0]
theorem zsN(v:Int)(t:BA)(a0:Pu n 47 [.agg #[iv 2,iv v,.string ⟨#[]⟩]] (.bool true) (al h.fh 27 [iv 2,iv v,.string ⟨#[]⟩]))(a1:Pu n 42 [iv v] (.string t) (al h.fh 27 [iv 2,iv v,.string ⟨#[]⟩])):Pu (n+1) 26 [.agg #[iv 2,iv v,.string ⟨#[]⟩]] (.string t) h:=
 fpV (kZ h) [aS 27 [iv 2,iv v,.string ⟨#[]⟩],.g 0 27 0 3,yP a0,.l 0 3 0,bF,bT,.l 0 2 1,yP a1,.z 0]
theorem zsO(a0:Pu n 47 [.agg #[iv 1,iv 1,.string ⟨#[]⟩]] (.bool true) (al h.fh 27 [iv 1,iv 1,.string ⟨#[]⟩])):Pu (n+1) 26 [.agg #[iv 1,iv 1,.string ⟨#[]⟩]] (.string ⟨#[84,82,85,69]⟩) h:=
 fpV (kZ h) [aS 27 [iv 1,iv 1,.string ⟨#[]⟩],.g 0 27 0 3,yP a0,.l 0 3 0,bT,.l 0 2 1,bT,.z 0]
theorem zsP(a0:Pu n 47 [.agg #[iv 1,iv 0,.string ⟨#[]⟩]] (.bool true) (al h.fh 27 [iv 1,iv 0,.string ⟨#[]⟩])):Pu (n+1) 26 [.agg #[iv 1,iv 0,.string ⟨#[]⟩]] (.string ⟨#[70,65,76,83,69]⟩) h:=
 fpV (kZ h) [aS 27 [iv 1,iv 0,.string ⟨#[]⟩],.g 0 27 0 3,yP a0,.l 0 3 0,bT,.l 0 2 1,bF,.z 0]
theorem zyP(v:Nat)(t:BA)(_h:1≤v)(_h2:v≤8)(a0:Pu n 47 [.agg #[iv 4,iv (v:Int),.string ⟨#[]⟩]] (.bool true) (al h.fh 27 (znP v)))(a1:wd En 32 (sv (h.nx+1) 0 8 8) (iv ((v:Int) - 1))=some (pv (h.nx+1) (0+((v:Int) - 1).toNat * 1)))(a2:LD (al (al h.fh 27 (znP v)) 9 ztM) 9 (h.nx+1) (0+((v:Int) - 1).toNat * 1) (.string t)):Pu (n+1) 26 [.agg #[iv 4,iv (v:Int),.string ⟨#[]⟩]] (.string t) h:=
 fpV (kZ h) [aS 27 (znP v),.g 0 27 0 3,yP a0,.l 0 3 0,bF,bF,bF,bT,aS 9 ztM,.l 0 2 1,yW ((v:Int) - 1),yE a1,yE a2,.z 0]
theorem zyN(s:BA)(a0:Pu n 47 [.agg #[iv 3,iv 0,.string s]] (.bool true) (al h.fh 27 [iv 3,iv 0,.string s])):Pu (n+1) 26 [.agg #[iv 3,iv 0,.string s]] (.string s) h:=
 fpV (kZ h) [aS 27 [iv 3,iv 0,.string s],.g 0 27 0 3,yP a0,.l 0 3 0,bF,bF,bT,.l 0 9 2,.z 0]
theorem zyQ(a0:Pu n 47 [.agg #[iv 0,iv 0,.string ⟨#[]⟩]] (.bool true) (al h.fh 27 [iv 0,iv 0,.string ⟨#[]⟩])):Pu (n+1) 26 [.agg #[iv 0,iv 0,.string ⟨#[]⟩]] (.string ⟨#[]⟩) h:=
 fpV (kZ h) [aS 27 [iv 0,iv 0,.string ⟨#[]⟩],.g 0 27 0 3,yP a0,.l 0 3 0,bF,bF,bF,bF,.z 0]
end
theorem vi(k v:Int)(s:BA)(h:Heap)(n:Nat)(hn:1≤n):RD n 47 [.agg #[iv k,iv v,.string s]] h=some (wV k v s,h):=by
 obtain⟨n,rfl⟩:=zs_ n
 exact(show RD (n+1) 47 [.agg #[iv k,iv v,.string s]] h=RD (n+1) 44 [.agg #[iv k,iv v,.string s]] h by kernel_rfl).trans (qu k v s h _ hn)
theorem zes(k v j w:Int)(s t:BA)(h:Heap)(n:Nat)(hn:1≤n):RD n 65 [.agg #[iv k,iv v,.string s],.agg #[iv j,iv w,.string t]] h=some (zbW k v j w s t,h):=by
 obtain⟨n,rfl⟩:=zs_ n
 exact(show RD (n+1) 65 [.agg #[iv k,iv v,.string s],.agg #[iv j,iv w,.string t]] h=RD (n+1) 94 [.agg #[iv k,iv v,.string s],.agg #[iv j,iv w,.string t]] h by kernel_rfl).trans (yk k v j w s t h _ hn)
theorem zd6(r c:Int)(h:Heap)(n:Nat)(hn:1≤n):RD n 21 [.agg #[iv r,iv c]] h=some (.bool (wE r c),h):=by
 obtain⟨n,rfl⟩:=zs_ n
 exact(show RD (n+1) 21 [.agg #[iv r,iv c]] h=RD (n+1) 37 [.agg #[iv r,iv c]] h by kernel_rfl).trans (vQ r c h _ hn)
def nmF:Nat→Bsy
 |1=>[35,68,73,86]|2=>[35,79,86,69,82]|3=>[35,84,89,80,69]|4=>[35,82,69,70]|5=>[35,65,82,71]|6=>[35,76,79,79,80]|7=>[35,76,79,78,71]|_=>[35,78,79,78,69]
theorem zmE(k v:Int)(s:Bsy):wV k v ⟨⟨s⟩⟩= .bool false∨(wV k v ⟨⟨s⟩⟩= .bool true∧((k=0∧v=0∧s=[])∨(k=1∧(v=0∨v=1)∧s=[])∨(k=2∧s=[])∨(k=3∧v=0∧s.length≤200)∨(k=4∧1≤v∧v≤8∧s=[]))):=by
 have e:bqS ⟨⟨s⟩⟩ ⟨#[]⟩=decide (s=[]):=zZ s []
 have el:(⟨⟨s⟩⟩:BA).data.toList.length=s.length:=rfl
 unfold wV
 rw[e,el]
 simp only[Bool.cond_eq_ite]
 repeat' split
 all_goals first
  |exact .inl rfl
  |(refine .inr ⟨rfl,?_⟩;simp only[beq_iff_eq,decide_eq_true_eq] at *;omega)
  |(refine .inr ⟨rfl,?_⟩;simp only[beq_iff_eq,decide_eq_true_eq] at *;simp_all)
theorem zgs(k v:Int)(s:Bsy)(h1: -9223372036854775808≤v)(h2:v≤9223372036854775807):∃ l:Bsy,l.length≤s.length+20∧
  ∀ (m:Int) (h:Heap) (n:Nat),4≤n→Gl m h→RD n 25 [.agg #[iv k,iv v,.string ⟨⟨s⟩⟩]] h=some (.string ⟨⟨l⟩⟩,h)∧RD n 26 [.agg #[iv k,iv v,.string ⟨⟨s⟩⟩]] h=some (.string ⟨⟨l⟩⟩,h):=by
 rcases zmE k v s with e|⟨e,c⟩
 ·refine⟨[63],by simp,fun m h n hn G=>?_⟩
  obtain⟨n,rfl⟩:=zs_ n
  exact⟨zyY h n k v _ ((qu k v _ _ n (by omega)).trans (by rw[e])),zyM h n k v _ ((vi k v _ _ n (by omega)).trans (by rw[e]))⟩
 have a0:∀ h n,1≤n→RD n 44 [.agg #[iv k,iv v,.string ⟨⟨s⟩⟩]] h=some (.bool true,h):=fun h n hn=>(qu k v _ _ n hn).trans (by rw[e])
 have b0:∀ h n,1≤n→RD n 47 [.agg #[iv k,iv v,.string ⟨⟨s⟩⟩]] h=some (.bool true,h):=fun h n hn=>(vi k v _ _ n hn).trans (by rw[e])
 rcases c with⟨rfl,rfl,rfl⟩|⟨rfl,c,rfl⟩|⟨rfl,rfl⟩|⟨rfl,rfl,hl⟩|⟨rfl,c1,c2,rfl⟩
 ·refine⟨[],by simp,fun m h n hn G=>?_⟩
  obtain⟨n,rfl⟩:=zs_ n
  exact⟨zy1 h n (a0 _ n (by omega)),zyQ h n (b0 _ n (by omega))⟩
 ·rcases c with rfl|rfl
  ·refine⟨[70,65,76,83,69],by simp,fun m h n hn G=>?_⟩
   obtain⟨n,rfl⟩:=zs_ n
   exact⟨zs2 h n (a0 _ n (by omega)),zsP h n (b0 _ n (by omega))⟩
  ·refine⟨[84,82,85,69],by simp,fun m h n hn G=>?_⟩
   obtain⟨n,rfl⟩:=zs_ n
   exact⟨zs1 h n (a0 _ n (by omega)),zsO h n (b0 _ n (by omega))⟩
 ·refine⟨Lib.itoa v,by have:=zdn h1 h2;omega,fun m h n hn G=>?_⟩
  obtain⟨n,rfl⟩:=zs_ n
  exact⟨zs0 h n v _ (a0 _ n (by omega)) (zaN (G.fh.alloc _) h1 h2 n (by omega)),zsN h n v _ (b0 _ n (by omega)) (uT h1 h2 _ n (by omega))⟩
 ·refine⟨s,by omega,fun m h n hn G=>?_⟩
  obtain⟨n,rfl⟩:=zs_ n
  exact⟨zyZ h n _ (a0 _ n (by omega)),zyN h n _ (b0 _ n (by omega))⟩
 ·obtain⟨w,rfl⟩:∃ w:Nat,v=(w:Int):=⟨v.toNat,by omega⟩
  refine⟨nmF w,?_,fun m h n hn G=>?_⟩
  ·unfold nmF;split <;>simp
  obtain⟨n,rfl⟩:∃ m,n=m+1+1:=⟨n - 2,by omega⟩
  have na:∀ h,RD (n+1) 46 [] h=some (nmV,h):=fun h=>(zAn h n).trans (congrArg some (zk (by rw[ze];show h.nx≤min h.nx h.nx;omega) rfl))
  have hw:w=1∨w=2∨w=3∨w=4∨w=5∨w=6∨w=7∨w=8:=by omega
  have a0:=a0 (al h.fh 27 [iv 4,iv (w:Int),.string ⟨#[]⟩]) (n+1) (by omega)
  have b0:=b0 (al h.fh 27 [iv 4,iv (w:Int),.string ⟨#[]⟩]) (n+1) (by omega)
  clear c1 c2 e h1 h2
  refine⟨zy0 h (n+1) _ ⟨⟨nmF w⟩⟩ a0 (na _) ?_,zyP h (n+1) w ⟨⟨nmF w⟩⟩ (by omega) (by omega) b0 ?_ ?_⟩
  ·clear a0 b0
   rcases hw with rfl|rfl|rfl|rfl|rfl|rfl|rfl|rfl <;>kernel_rfl
  ·clear a0 b0
   rcases hw with rfl|rfl|rfl|rfl|rfl|rfl|rfl|rfl <;>kernel_rfl
  ·clear a0 b0
   rcases hw with rfl|rfl|rfl|rfl|rfl|rfl|rfl|rfl <;>exact zG gN C9 rfl
theorem zhE(h:Heap)(n:Nat)(hn:2≤n)(b:Nat)(hb:b≤1):RD n 25 [.agg #[iv 1,iv (b:Int),.string ⟨#[]⟩]] h=some (.string ⟨⟨if(b:Int)=1 then[84,82,85,69] else[70,65,76,83,69]⟩⟩,h):=by
 obtain⟨n,rfl⟩:=zs_ n
 match b,hb with
 |0,_=>exact zs2 h n (qu 1 0 ⟨#[]⟩ _ _ (by omega))
 |1,_=>exact zs1 h n (qu 1 1 ⟨#[]⟩ _ _ (by omega))
theorem zh2:∀ s∈wq,s.length≤2∧s≠[]:=by decide
theorem zgH{m:Int}{P:Nat→Prop}{W:Nat}(hW:14≤W)(hP:∀ b,P b→b < W):∀ (d:Nat) (t:Tr),GT t→t.depth≤d→∀ f,2 * d+6≤f→NW m P W f t
 |0,.node y ts,_,hd,_,_=>by unfold Tr.depth at hd;omega
 |d+1,.node y ts,g,hd,f,hf=>by
  obtain⟨f,rfl⟩:∃ k,f=k+1+1:=⟨f - 2,by omega⟩
  intro h x r n l G N S hl
  unfold Tr.depth at hd
  unfold Tr.size at hl
  have S0:=S.fh.al 72 (ndL x r n)
  have G0:Gl m (al h.fh 72 (ndL x r n)):=G.fh.alloc _
  have N0:zc (al h.fh 72 (ndL x r n)) P x r n (.node y ts):=zc.mono (h:=h) (fun c o hc e=>⟨hc,gA (h:=h.fh) e⟩) N
  have g0:(al h.fh 72 (ndL x r n)).get h.nx=some (.row 72 (ndL x r n) 0 false):=gN (h:=h.fh)
  have gn:=zkB g
  have gl:=jU _ g
  have ga:=g.args.1
  have ih:∀ t∈ts,∀ f',2 * d+6≤f'→NW m P W f' t:=fun t ht f' hf'=>zgH hW hP d t (ga t ht) (by have:=ux ht;omega) f' hf'
  unfold Tr.size at gl
  clear N
  unfold zc at N0
  obtain⟨rfl,rfl,N0⟩:=N0
  have leaf:∀ s:Bsy,s=txt (.node x ts)→∃ h1,RD (f+1) 163 [pv W 0,.string ⟨⟨s⟩⟩] (al h.fh 72 (ndL x r ts.length))=some (.tuple #[iv ((s.length:Nat):Int),.nilIface],h1)∧WO h.fh W (l++txt (.node x ts)) h1:=fun s hs=>by
   subst hs
   obtain⟨h1,e1,w1⟩:=yi _ W l _ (f+1) (by omega) S0 gn (by omega)
   exact⟨h1,e1,w1.al S.fh _ _⟩
  cases g with
  |int b hb=>
   obtain⟨h1,e1,w1⟩:=leaf (Lib.itoa (b:Int)) rfl
   exact uZ (znU h h1 W _ (f+1) r 2 b [] ⟨⟨Lib.itoa (b:Int)⟩⟩ (zBF _ b _ f (zaN (G0.fh.alloc _) (by omega) (by omega) f (by omega))) e1) w1 S.1
  |text s hs=>
   obtain⟨h1,e1,w1⟩:=leaf (yZ s) rfl
   exact uZ (znU h h1 W _ (f+1) r 3 0 s ⟨⟨yZ s⟩⟩ (zBE _ _ _ f (zqu (G0.fh.alloc _) s (by omega) f (by omega))) e1) w1 S.1
  |bool b hb=>
   obtain⟨h1,e1,w1⟩:=leaf (if(b:Int)=1 then[84,82,85,69] else[70,65,76,83,69]) rfl
   exact uZ (znU h h1 W _ (f+1) r 1 b [] _ (zBG _ b _ f (zhE _ f (by omega) b hb)) e1) w1 S.1
  |cell a c hG=>
   obtain⟨h1,e1,w1⟩:=leaf (nmB a c) rfl
   exact uZ (zAc h h1 W _ (f+1) r a c _ (zb8 G0 hG (f+1) (by omega)) e1) w1 S.1
  |range a c a' c' hG hG' hr hc=>
   obtain⟨h1,e1,w1⟩:=leaf (nmB a c++[58]++nmB a' c') rfl
   have:=yw hG
   have:=yw hG'
   have e1':RD (f+1) 163 [pv W 0,.string ((⟨⟨nmB a c⟩⟩++⟨#[58]⟩)++⟨⟨nmB a' c'⟩⟩)] (al h.fh 72 (ndL (zF 3 a c a' c') r 0))=some (.tuple #[iv (((nmB a c++[58]++nmB a' c').length:Nat):Int),.nilIface],h1):=e1
   exact uZ (zwP h h1 W _ (f+1) r a c a' c' _ _ (by rw[bsz];omega) (by rw[bsz];omega) (zb8 G0 hG (f+1) (by omega)) (zb8 G0 hG' (f+1) (by omega)) e1') w1 S.1
  |neg t ht=>
   rcases N0 with⟨e,_⟩|⟨b,cs,es,ro,rfl,hb,hgb,hA⟩
   ·cases e
   have hbW:=hP b hb
   obtain⟨h1,e1,w1⟩:=yi _ W l [45] (f+1) (by omega) S0 (by simp) (by simp only[lC,lN];omega)
   obtain⟨y,yr,yn,cs2,ld,Ny,_,_⟩:=vR (h:=h1) (P:=P) (ts:=[]) ((w1.up.get b hbW).trans hgb) 0 cs [t] (ArgsC.mono (fun c o hc e=>⟨hc,(w1.up.get c (hP c hc)).trans e⟩) hA) rfl t [] rfl
   obtain⟨h2,e2,w2⟩:=zcf (f:=f) (by omega) hW hP ht (ih t (List.mem_cons_self ..) f (by omega)) 5 (G0.upW w1.up hW) Ny w1.st (by simp only[lA,lC,lN,zo] at *;omega)
   have:=uZ (zAd h h1 h2 W b 1 (f+1) y yr yn (w1.kk _ _ g0) e1 ld e2) ((w1.trans w2).al S.fh _ _) S.1
   rw[List.append_assoc] at this
   exact this
  |two s t u hs ht hu=>
   rcases N0 with⟨e,_⟩|⟨b,cs,es,ro,rfl,hb,hgb,hA⟩
   ·cases e
   have hbW:=hP b hb
   have hl:l.length+410 * (1+(t.size+(u.size+0)))≤1000000:=hl
   have hsl:=zh2 s hs
   have tl:=jU t ht
   have ul:=jU u hu
   have p1:=vN (wX (binR s)).1 t (txt t)
   obtain⟨y,yr,yn,cs2,ld,Ny,A2,hd2⟩:=vR (P:=P) (ts:=[]) hgb 0 cs [t,u] hA rfl t [u] rfl
   obtain⟨h1,e1,w1⟩:=zcf (f:=f) (by omega) hW hP ht (ih t (List.mem_cons_self ..) f (by omega)) (wX (binR s)).1 G0 Ny S0 (by omega)
   obtain⟨h2,e2,w2⟩:=yi h1 W _ s (f+1) (by omega) w1.st hsl.2 (by simp only[lA];omega)
   have w12:=w1.trans w2
   obtain⟨z,zr,zn,cs3,ld2,Nz,_,_⟩:=vR (h:=h2) (P:=P) (ts:=[]) ((w12.up.get b hbW).trans hgb) 1 cs2 [u] (ArgsC.mono (fun c o hc e=>⟨hc,(w12.up.get c (hP c hc)).trans e⟩) A2) hd2 u [] rfl
   obtain⟨h3,e3,w3⟩:=zcf (f:=f) (by omega) hW hP hu (ih u (by simp) f (by omega)) (wX (binR s)).2 (G0.upW w12.up hW) Nz w2.st (by simp only[lA];omega)
   have:=uZ (zAf h h1 h2 h3 W b _ (wX (binR s)).1 (wX (binR s)).2 (f+1) s y z yr zr yn zn (w1.kk _ _ g0) (w12.kk _ _ g0) (zna hs _ (f+1) (by omega)) ld e1 e2 ld2 e3) ((w12.trans w3).al S.fh _ _) S.1
   rw[List.append_assoc,List.append_assoc] at this
   have e:txt (.node (zg 5 s) [t,u])=vc (wX (binR s)).1 t (txt t)++(s++vc (wX (binR s)).2 u (txt u)):=List.append_assoc ..
   rw[e]
   exact this
  |call nm a hw ha hh=>
   have hnl:=hw.1
   obtain⟨h1,e1,w1⟩:=yi _ W l (nm++[40]) (f+1) (by omega) S0 (by simp) (by simp only[lA,lC,lN];omega)
   have G1:=G0.upW w1.up hW
   have e1':RD (f+1) 163 [pv W 0,.string (⟨⟨nm⟩⟩++⟨#[40]⟩)] (al h.fh 72 (ndL (zg 6 nm) r ts.length))=some (.tuple #[iv (((nm++[40]).length:Nat):Int),.nilIface],h1):=e1
   have hlen:=zbe ts hh
   have hjl:=zch (wu ts)
   have tot:=zS ts
   obtain⟨H,LF,SS,uu,m2,kk⟩:∃ H,NlW (f+1) [(0,pv W 0),(95,.slice r ts.length ts.length),(96,iv ts.length),(97,iv ((0:Nat):Int))] h1 (.exit 1) [(0,pv W 0)] H (ts.length+1)∧WSt H W (l++(nm++[40])++qr (wu ts))∧Up W h1 H∧H.wm≤W∧K72 h1 H:=by
    rcases N0 with⟨rfl,rfl⟩|⟨b,cs,es,ro,rfl,hb,hgb,hA⟩
    ·exact⟨h1,.out (zlz h1 none 0 W 0 (f+1) rfl),by rw[show qr (wu [])=[] from rfl,List.append_nil];exact w1.st,Up.refl _ _,w1.wm,fun _ _ e=>e⟩
    ·obtain⟨H,LL,SS,uu,_,m2,kk⟩:=zh5 (m:=m) (P:=P) (W:=W) (f:=f+1) (by omega) hW hP b ts.length es cs ro (hP b hb) ts 0 h1 cs (l++(nm++[40])) (fun t ht=>⟨hh t ht,ih t ht (f+1) (by omega)⟩) G1 (ArgsC.mono (fun c o hc e=>⟨hc,(w1.up.get c (hP c hc)).trans e⟩) hA) ((w1.up.get b (hP b hb)).trans hgb) rfl (by omega) (by omega) w1.st (by simp only[lA,lC,lN];omega)
     exact⟨H,LL,SS,uu,m2 w1.wm,kk⟩
   obtain⟨h2,e2,w2⟩:=yi H W _ [41] (f+1) (by omega) SS (by simp) (by simp only[lA,lC,lN];omega)
   have w1H:WO (al h.fh 72 (ndL (zg 6 nm) r ts.length)) W (l++(nm++[40])++qr (wu ts)) H:=⟨SS,w1.up.trans uu,m2,w1.kk.trans kk⟩
   have:=uZ (zAe h h1 H h2 W _ _ (f+1) nm r ts.length (by rw[bsz];omega) (w1.kk _ _ g0) e1' (LF.fact2 (by omega) (by kernel_rfl)) e2) ((w1H.trans w2).al S.fh _ _) S.1
   rw[List.append_assoc,List.append_assoc] at this
   have e:txt (.node (zg 6 nm) ts)=(nm++[40])++(qr (wu ts)++[41]):=List.append_assoc ..
   rw[e]
   exact this
def jT(t:Tr):Bsy×Nat:=if 300 < (txt t).length then([],2) else(txt t,0)
theorem zlg{m:Int}{h:Heap}{P:Nat→Prop}{x:Hd}{r:OA}{n:Nat}{t:Tr}(g:GT t)(hd:t.depth≤16)(hs:t.size≤300)(G:Gl m h)(N:zc h P x r n t)(f:Nat)(hf:80≤f):
  RD f 97 [ndV x r n] h=some (.tuple #[.string ⟨⟨(jT t).1⟩⟩,iv (((jT t).2:Nat):Int)],h):=by
 obtain⟨f,rfl⟩:=zs_ f
 have hG:=G.nx
 have gl:=jU _ g
 have N0:zc (al h.fh 72 (ndL x r n)) (fun b=>b < h.nx) x r n t:=zc.mono (h:=h) (fun c o hc e=>⟨za e,gA (h:=h.fh) e⟩) N
 have G0:Gl m (al h.fh 72 (ndL x r n)):=G.fh.alloc _
 have eg:=zrx g N0 hs hd f (by omega)
 have l1:h.nx+1 < (al (al h.fh 72 (ndL x r n)) 228 [.pointer none,.slice none 0 0]).nx:=nS _
 have S1:WSt (al (al h.fh 72 (ndL x r n)) 228 [.pointer none,.slice none 0 0]) (h.nx+1) []:=⟨l1,.inl ⟨rfl,gN (h:=al h.fh 72 (ndL x r n))⟩⟩
 have K1:Kp h.fh (al (al h.fh 72 (ndL x r n)) 228 [.pointer none,.slice none 0 0]):=((Kp.refl h.fh).al _ _).al _ _
 obtain⟨h1,e1,w1⟩:=zgH (m:=m) (P:=fun b=>b < h.nx) (W:=h.nx+1) (by omega) (fun b hb=>by omega) 16 t g hd f (by omega) _ x r n [] (G0.alloc _) (zc.mono (h:=al h.fh 72 (ndL x r n)) (fun c o hc e=>⟨hc,gA e⟩) N0) S1 (by simp only[lN];omega)
 have st:=w1.st
 rw[List.nil_append] at st
 have el:=zku h1 (h.nx+1) (txt t) f (by omega) st (zkB g)
 have wm1:h.nx≤h1.wm:=by
  have h3:min (h.nx+1) h.nx≤h1.wm:=w1.up.wm
  omega
 unfold jT
 by_cases hl:300 < (txt t).length
 ·rw[if_pos hl]
  exact(zyC h h1 _ f x r n eg e1 el (dT (by omega))).trans (congrArg some (zk wm1 rfl))
 ·rw[if_neg hl]
  obtain⟨h2,e2,u2⟩:=zgl h1 (h.nx+1) (h.nx+1) (txt t) f (by omega) st (nL_ _) (by omega)
  exact(zyD h h1 _ f x r n h2 _ eg e1 el (dF (by omega)) e2).trans (congrArg some (zk (by have:=u2.wm;omega) rfl))
end Go.PanE
