/-
 Part 40 of the proof of Rows.DumpLinesCardSaid. No conditions.
-/
import Derived.Test.YtihkphfmnnndfaaGreatDoorT39
namespace Go.PanE
open Go.Proofs
def wV(k v:Int)(s:BA):Value:=
 bif ((k:Int)==0) then(bif ((v:Int)==0) then(bif bqS s ⟨#[]⟩ then(.bool true) else
  (.bool false)) else
  (.bool false)) else
 bif ((k:Int)==1) then(bif ((v:Int)==0) then(bif bqS s ⟨#[]⟩ then(.bool true) else
  (.bool false)) else
  bif ((v:Int)==1) then(bif bqS s ⟨#[]⟩ then(.bool true) else
  (.bool false)) else
  (.bool false)) else
 bif ((k:Int)==2) then(bif bqS s ⟨#[]⟩ then(.bool true) else
  (.bool false)) else
 bif ((k:Int)==3) then(bif ((v:Int)==0) then(bif decide ((s.data.toList.length:Int)≤200) then(.bool true) else
  (.bool false)) else
  (.bool false)) else
 bif ((k:Int)==4) then(bif decide ((v:Int)≥1) then(bif decide ((v:Int)≤8) then(bif bqS s ⟨#[]⟩ then(.bool true) else
   (.bool false)) else
  (.bool false)) else
  (.bool false)) else
 (.bool false)
theorem qu(k v:Int)(s:BA)(h:Heap)(n:Nat)(hn:1≤n):RD n 44 [.agg #[iv k,iv v,.string s]] h=some (wV k v s,h):=by
 obtain⟨m,rfl⟩:=zs_ n
 cases b0:((k:Int)==0)
 ·cases b1:((k:Int)==1)
  ·cases b2:((k:Int)==2)
   ·cases b3:((k:Int)==3)
    ·cases b4:((k:Int)==4)
     ·rw[wV,b0,b1,b2,b3,b4]
      exact fpV (kZ h) [aS 27 [iv k,iv v,.string s],.l 0 3 0,yF b0,yF b1,yF b2,yF b3,yF b4,.z 0]
     ·cases b5:decide ((v:Int)≥1)
      ·rw[wV,b0,b1,b2,b3,b4,b5]
       exact fpV (kZ h) [aS 27 [iv k,iv v,.string s],.l 0 3 0,yF b0,yF b1,yF b2,yF b3,yT b4,.l 0 2 1,yF b5,.z 0]
      ·cases b6:decide ((v:Int)≤8)
       ·rw[wV,b0,b1,b2,b3,b4,b5,b6]
        exact fpV (kZ h) [aS 27 [iv k,iv v,.string s],.l 0 3 0,yF b0,yF b1,yF b2,yF b3,yT b4,.l 0 2 1,yT b5,.l 0 2 1,yF b6,.z 0]
       ·cases b7:bqS s ⟨#[]⟩
        ·rw[wV,b0,b1,b2,b3,b4,b5,b6,b7]
         exact fpV (kZ h) [aS 27 [iv k,iv v,.string s],.l 0 3 0,yF b0,yF b1,yF b2,yF b3,yT b4,.l 0 2 1,yT b5,.l 0 2 1,yT b6,.l 0 9 2,yF b7,.z 0]
        ·rw[wV,b0,b1,b2,b3,b4,b5,b6,b7]
         exact fpV (kZ h) [aS 27 [iv k,iv v,.string s],.l 0 3 0,yF b0,yF b1,yF b2,yF b3,yT b4,.l 0 2 1,yT b5,.l 0 2 1,yT b6,.l 0 9 2,yT b7,.z 0]
    ·cases b4:((v:Int)==0)
     ·rw[wV,b0,b1,b2,b3,b4]
      exact fpV (kZ h) [aS 27 [iv k,iv v,.string s],.l 0 3 0,yF b0,yF b1,yF b2,yT b3,.l 0 2 1,yF b4,.z 0]
     ·cases b5:decide ((s.data.toList.length:Int)≤200)
      ·rw[wV,b0,b1,b2,b3,b4,b5]
       exact fpV (kZ h) [aS 27 [iv k,iv v,.string s],.l 0 3 0,yF b0,yF b1,yF b2,yT b3,.l 0 2 1,yT b4,.l 0 9 2,yF b5,.z 0]
      ·rw[wV,b0,b1,b2,b3,b4,b5]
       exact fpV (kZ h) [aS 27 [iv k,iv v,.string s],.l 0 3 0,yF b0,yF b1,yF b2,yT b3,.l 0 2 1,yT b4,.l 0 9 2,yT b5,.z 0]
   ·cases b3:bqS s ⟨#[]⟩
    ·rw[wV,b0,b1,b2,b3]
     exact fpV (kZ h) [aS 27 [iv k,iv v,.string s],.l 0 3 0,yF b0,yF b1,yT b2,.l 0 9 2,yF b3,.z 0]
    ·rw[wV,b0,b1,b2,b3]
     exact fpV (kZ h) [aS 27 [iv k,iv v,.string s],.l 0 3 0,yF b0,yF b1,yT b2,.l 0 9 2,yT b3,.z 0]
  ·cases b2:((v:Int)==0)
   ·cases b3:((v:Int)==1)
    ·rw[wV,b0,b1,b2,b3]
     exact fpV (kZ h) [aS 27 [iv k,iv v,.string s],.l 0 3 0,yF b0,yT b1,.l 0 2 1,yF b2,.l 0 2 1,yF b3,.z 0]
    ·cases b4:bqS s ⟨#[]⟩
     ·rw[wV,b0,b1,b2,b3,b4]
      exact fpV (kZ h) [aS 27 [iv k,iv v,.string s],.l 0 3 0,yF b0,yT b1,.l 0 2 1,yF b2,.l 0 2 1,yT b3,.l 0 9 2,yF b4,.z 0]
     ·rw[wV,b0,b1,b2,b3,b4]
      exact fpV (kZ h) [aS 27 [iv k,iv v,.string s],.l 0 3 0,yF b0,yT b1,.l 0 2 1,yF b2,.l 0 2 1,yT b3,.l 0 9 2,yT b4,.z 0]
   ·cases b3:bqS s ⟨#[]⟩
    ·rw[wV,b0,b1,b2,b3]
     exact fpV (kZ h) [aS 27 [iv k,iv v,.string s],.l 0 3 0,yF b0,yT b1,.l 0 2 1,yT b2,.l 0 9 2,yF b3,.z 0]
    ·rw[wV,b0,b1,b2,b3]
     exact fpV (kZ h) [aS 27 [iv k,iv v,.string s],.l 0 3 0,yF b0,yT b1,.l 0 2 1,yT b2,.l 0 9 2,yT b3,.z 0]
 ·cases b1:((v:Int)==0)
  ·rw[wV,b0,b1]
   exact fpV (kZ h) [aS 27 [iv k,iv v,.string s],.l 0 3 0,yT b0,.l 0 2 1,yF b1,.z 0]
  ·cases b2:bqS s ⟨#[]⟩
   ·rw[wV,b0,b1,b2]
    exact fpV (kZ h) [aS 27 [iv k,iv v,.string s],.l 0 3 0,yT b0,.l 0 2 1,yT b1,.l 0 9 2,yF b2,.z 0]
   ·rw[wV,b0,b1,b2]
    exact fpV (kZ h) [aS 27 [iv k,iv v,.string s],.l 0 3 0,yT b0,.l 0 2 1,yT b1,.l 0 9 2,yT b2,.z 0]
def zbW(k v j w:Int)(s t:BA):Value:=
 bif ((k:Int)==j) then(bif ((v:Int)==w) then(bif bqS s t then(.bool true) else
  (.bool false)) else
  (.bool false)) else
 (.bool false)
theorem yk(k v j w:Int)(s t:BA)(h:Heap)(n:Nat)(hn:1≤n):RD n 94 [.agg #[iv k,iv v,.string s],.agg #[iv j,iv w,.string t]] h=some (zbW k v j w s t,h):=by
 obtain⟨m,rfl⟩:=zs_ n
 cases b0:((k:Int)==j)
 ·rw[zbW,b0]
  exact fpV (kZ h) [aS 27 [iv k,iv v,.string s],aS 27 [iv j,iv w,.string t],.l 0 3 0,.l 1 3 0,yF b0,.z 0]
 ·cases b1:((v:Int)==w)
  ·rw[zbW,b0,b1]
   exact fpV (kZ h) [aS 27 [iv k,iv v,.string s],aS 27 [iv j,iv w,.string t],.l 0 3 0,.l 1 3 0,yT b0,.l 0 2 1,.l 1 2 1,yF b1,.z 0]
  ·cases b2:bqS s t
   ·rw[zbW,b0,b1,b2]
    exact fpV (kZ h) [aS 27 [iv k,iv v,.string s],aS 27 [iv j,iv w,.string t],.l 0 3 0,.l 1 3 0,yT b0,.l 0 2 1,.l 1 2 1,yT b1,.l 0 9 2,.l 1 9 2,yF b2,.z 0]
   ·rw[zbW,b0,b1,b2]
    exact fpV (kZ h) [aS 27 [iv k,iv v,.string s],aS 27 [iv j,iv w,.string t],.l 0 3 0,.l 1 3 0,yT b0,.l 0 2 1,.l 1 2 1,yT b1,.l 0 9 2,.l 1 9 2,yT b2,.z 0]
noncomputable section
abbrev zt3:Vs:=[.string ⟨#[61]⟩,.string ⟨#[60,62]⟩,.string ⟨#[60]⟩,.string ⟨#[60,61]⟩,.string ⟨#[62]⟩,.string ⟨#[62,61]⟩,.string ⟨#[43]⟩,.string ⟨#[45]⟩,.string ⟨#[38]⟩,.string ⟨#[42]⟩,.string ⟨#[47]⟩,.string ⟨#[37]⟩,.string ⟨#[94]⟩]
abbrev zgM:Vs:=[.agg #[iv 0,iv 0,.string ⟨#[]⟩],.agg #[iv 0,iv 0,.string ⟨#[]⟩]]
abbrev zca:Value:=.agg #[iv 0,iv 0,iv 0,iv 0]
abbrev zn3(s:BA)(i:Nat):List (Nat×Value):=[(0,.string s),(6,iv (s.data.toList.length:Int)),(7,iv (i:Int))]
abbrev zjN(xr:OA)(xn:Nat):Vs:=[.slice xr xn xn,.func (.func 189) #[] #[]]
abbrev zn2(h:Heap)(s:Bsy)(q:Nat):Heap:=al h.fh 72 (ndL (zg 5 s) (some ⟨q,0,none⟩) 2)
variable (h h1:Heap) (L ab j i n:Nat) (x:Hd) (xr:OA) (b r c r1 c1:Int) (xn:Nat) (s:Bsy)
theorem zlX(L i n:Nat)(a0:decide ((i:Int) < xn)=false):Bd n 28 [1,1,0,1,0,0] Tryz.f159 [(1,pv L 0),(17,.slice xr xn xn),(18,iv xn),(19,iv (i:Int))] h (.exit 0) [] h:=
 bdF (kZ h) [yF a0]
theorem zxc(_h1:i < j)(_h2:j < 4000)(a0:decide ((i:Int) < j)=true)(a1:LD h 72 ab (0+i * 10) (ndV x xr xn))(a2:RD n 159 [ndV x xr xn,pv L 0] (pt (al h 72 z72) h.nx 72 (ndL x xr xn))=some (.bool true,h1)):Bd n 28 [1,1,0,1,0,0] Tryz.f159 [(1,pv L 0),(17,sv ab 0 j j),(18,iv j),(19,iv (i:Int))] h .normal [(1,pv L 0),(17,sv ab 0 j j),(18,iv j),(19,iv ((i:Int)+1))] h1:=
 bdF (kZ h) [yT a0,iA 70 72 10 ab j i,yE a1,aS 72 z72,.w 0 72 0 (ndV x xr xn),.g 0 72 0 10,yC a2 (kZ h1),yW ((i:Int)+1),.z 0]
theorem zxd(hL:Heap)(L n v:Nat)(x:Hd)(xr:OA)(xn:Nat)(hg:h.get L=some (.row 3 [iv (v:Int)] 0 false))(_h:v < 4000)(a0:decide (((v:Int) - 1:Int) < 0)=false)(a1:Lf n 28 [1,1,0,1,0,0] Tryz.f159 [(0,ndV x xr xn),(1,pv L 0),(2,pv h.nx 0),(4,.bool false),(7,pv L 0),(8,pv L 0),(9,iv (v:Int)),(10,iv ((v:Int) - 1)),(11,pv L 0),(12,pv L 0),(13,pv L 0),(14,iv ((v:Int) - 1)),(15,.bool false),(16,pv h.nx 9),(17,.slice xr xn xn),(18,iv xn),(19,iv 0)] (pt (al h.fh 72 (ndL x xr xn)) L 3 [iv ((v:Int) - 1)]) (.exit 0) [] hL):Fn n 159 [ndV x xr xn,pv L 0] h (.bool true) hL:=
 fnV (kI (ko hg)) [aS 72 (ndL x xr xn),.l 0 3 0,yW ((v:Int) - 1),.w 0 3 0 (iv ((v:Int) - 1)),.l 0 3 0,yF a0,.l 1 70 9,yS a1 (kZ hL),.z 0]
theorem zvJ(a0:RD n 159 [ndV x xr xn,pv (h.nx+1) 0] (pt (al (al h.fh 72 (ndL x xr xn)) 3 [iv 0]) (h.nx+1) 3 [iv 2000])=some (.bool true,h1)):Fn n 127 [ndV x xr xn] h (.bool true) h1:=
 fnV (kZ h) [aS 72 (ndL x xr xn),aS 3 [iv 0],.w 1 3 0 (iv 2000),.g 0 72 0 10,yC a0 (kZ h1),.z 0]
theorem zoC(a b:Int)(s:Bsy)(a0:eqV 43 zca zca=some (.bool true)):Pu (n+1) 211 [ndV (zz a b s) xr 0,.bool true,.bool false,.bool false,iv 0,iv 0] (.bool true) h:=
 fpV (kZ h) [aS 72 (ndL (zz a b s) xr 0),.g 0 43 4 4,yE a0,.l 0 9 8,bT,.l 0 70 9,bT,.l 0 70 9,bT,.z 0]
theorem zBl(a0:Pu n 94 zgM (.bool true) (al h.fh 72 (ndL (zF 2 r c 0 0) xr 0))):Pu (n+1) 211 [ndV (zF 2 r c 0 0) xr 0,.bool false,.bool true,.bool false,iv 0,iv 0] (.bool true) h:=
 fpV (kZ h) [aS 72 (ndL (zF 2 r c 0 0) xr 0),.g 0 27 1 3,yP a0,.l 0 9 8,bT,.l 0 70 9,bT,.l 0 70 9,bT,.z 0]
theorem zxn(a0:Pu n 94 zgM (.bool true) (al h.fh 72 (ndL (zF 3 r c r1 c1) xr 0))):Pu (n+1) 211 [ndV (zF 3 r c r1 c1) xr 0,.bool false,.bool true,.bool false,iv 0,iv 0] (.bool true) h:=
 fpV (kZ h) [aS 72 (ndL (zF 3 r c r1 c1) xr 0),.g 0 27 1 3,yP a0,.l 0 9 8,bT,.l 0 70 9,bT,.l 0 70 9,bT,.z 0]
theorem zBm(xr:OA)(q:Nat)(a0:Pu n 94 zgM (.bool true) (al h.fh 72 (ndL (zg 4 []) (some ⟨q,0,none⟩) 1)))(a1:eqV 43 zca zca=some (.bool true)):Pu (n+1) 211 [ndV (zg 4 []) (some ⟨q,0,none⟩) 1,.bool false,.bool false,.bool false,iv 1,iv 1] (.bool true) h:=
 fpV (kZ h) [aS 72 (ndL (zg 4 []) (some ⟨q,0,none⟩) 1),.g 0 27 1 3,yP a0,.g 0 43 4 4,yE a1,.l 0 9 8,bT,.l 0 70 9,bT,.l 0 70 9,bT,.z 0]
theorem zBo(xr:OA)(q:Nat)(s:Bsy)(a0:Pu n 94 zgM (.bool true) (zn2 h s q))(a1:eqV 43 zca zca=some (.bool true)):Pu (n+1) 211 [ndV (zg 5 s) (some ⟨q,0,none⟩) 2,.bool false,.bool false,.bool true,iv 2,iv 2] (.bool true) h:=
 fpV (kZ h) [aS 72 (ndL (zg 5 s) (some ⟨q,0,none⟩) 2),.g 0 27 1 3,yP a0,.g 0 43 4 4,yE a1,.l 0 70 9,bT,.l 0 70 9,bT,.z 0]
theorem zBn(a0:Pu n 94 zgM (.bool true) (al h.fh 72 (ndL (zg 6 s) xr xn)))(a1:eqV 43 zca zca=some (.bool true))(a2:decide ((xn:Int)≥0)=true)(a3:decide ((xn:Int)≤10)=true):Pu (n+1) 211 [ndV (zg 6 s) xr xn,.bool false,.bool false,.bool true,iv 0,iv 10] (.bool true) h:=
 fpV (kZ h) [aS 72 (ndL (zg 6 s) xr xn),.g 0 27 1 3,yP a0,.g 0 43 4 4,yE a1,.l 0 70 9,yT a2,.l 0 70 9,yT a3,.z 0]
theorem zBd(a0:Pu n 37 [.agg #[iv r,iv c]] (.bool true) (al h.fh 43 [iv r,iv c,iv r1,iv c1]))(a1:Pu n 37 [.agg #[iv r1,iv c1]] (.bool true) (al h.fh 43 [iv r,iv c,iv r1,iv c1]))(a2:decide ((r:Int)≤r1)=true)(a3:decide ((c:Int)≤c1)=true):Pu (n+1) 114 [.agg #[iv r,iv c,iv r1,iv c1]] (.bool true) h:=
 fpV (kZ h) [aS 43 [iv r,iv c,iv r1,iv c1],.g 0 29 0 2,yP a0,.g 0 29 2 2,yP a1,.l 0 3 0,.l 0 3 2,yT a2,.l 0 3 1,.l 0 3 3,yT a3,.z 0]
theorem zz8(a0:decide ((b:Int)≥0)=true)(a1:Pu n 211 [ndV (zz 2 b []) xr 0,.bool true,.bool false,.bool false,iv 0,iv 0] (.bool true) (al h.fh 72 (ndL (zz 2 b []) xr 0)))(a2:Pu n 44 [.agg #[iv 2,iv b,.string ⟨#[]⟩]] (.bool true) (al h.fh 72 (ndL (zz 2 b []) xr 0))):Pu (n+1) 187 [ndV (zz 2 b []) xr 0] (.bool true) h:=
 fpV (kZ h) [aS 72 (ndL (zz 2 b []) xr 0),.l 0 3 0,bT,.l 0 3 1,bT,.l 0 2 2,yT a0,.g 0 72 0 10,yP a1,.g 0 27 1 3,yP a2,.z 0]
theorem zz5(a0:Pu n 211 [ndV (zz 3 0 s) xr 0,.bool true,.bool false,.bool false,iv 0,iv 0] (.bool true) (al h.fh 72 (ndL (zz 3 0 s) xr 0)))(a1:Pu n 44 [.agg #[iv 3,iv 0,.string ⟨⟨s⟩⟩]] (.bool true) (al h.fh 72 (ndL (zz 3 0 s) xr 0))):Pu (n+1) 187 [ndV (zz 3 0 s) xr 0] (.bool true) h:=
 fpV (kZ h) [aS 72 (ndL (zz 3 0 s) xr 0),.l 0 3 0,bT,.l 0 3 1,bF,.l 0 3 1,bT,.g 0 72 0 10,yP a0,.g 0 27 1 3,yP a1,.z 0]
theorem zAa(a0:Pu n 211 [ndV (zz 1 b []) xr 0,.bool true,.bool false,.bool false,iv 0,iv 0] (.bool true) (al h.fh 72 (ndL (zz 1 b []) xr 0)))(a1:Pu n 44 [.agg #[iv 1,iv b,.string ⟨#[]⟩]] (.bool true) (al h.fh 72 (ndL (zz 1 b []) xr 0))):Pu (n+1) 187 [ndV (zz 1 b []) xr 0] (.bool true) h:=
 fpV (kZ h) [aS 72 (ndL (zz 1 b []) xr 0),.l 0 3 0,bT,.l 0 3 1,bF,.l 0 3 1,bF,.l 0 3 1,bT,.g 0 72 0 10,yP a0,.g 0 27 1 3,yP a1,.z 0]
theorem zz6(a0:Pu n 211 [ndV (zF 2 r c 0 0) xr 0,.bool false,.bool true,.bool false,iv 0,iv 0] (.bool true) (al h.fh 72 (ndL (zF 2 r c 0 0) xr 0)))(a1:Pu n 37 [.agg #[iv r,iv c]] (.bool true) (al h.fh 72 (ndL (zF 2 r c 0 0) xr 0)))(a2:eqV 29 (.agg #[iv 0,iv 0]) (.agg #[iv 0,iv 0])=some (.bool true)):Pu (n+1) 187 [ndV (zF 2 r c 0 0) xr 0] (.bool true) h:=
 fpV (kZ h) [aS 72 (ndL (zF 2 r c 0 0) xr 0),.l 0 3 0,bF,bT,.g 0 72 0 10,yP a0,.g 0 29 4 2,yP a1,.g 0 29 6 2,yE a2,.z 0]
theorem zwK(a0:Pu n 211 [ndV (zF 3 r c r1 c1) xr 0,.bool false,.bool true,.bool false,iv 0,iv 0] (.bool true) (al h.fh 72 (ndL (zF 3 r c r1 c1) xr 0)))(a1:Pu n 114 [.agg #[iv r,iv c,iv r1,iv c1]] (.bool true) (al h.fh 72 (ndL (zF 3 r c r1 c1) xr 0))):Pu (n+1) 187 [ndV (zF 3 r c r1 c1) xr 0] (.bool true) h:=
 fpV (kZ h) [aS 72 (ndL (zF 3 r c r1 c1) xr 0),.l 0 3 0,bF,bF,bT,.g 0 72 0 10,yP a0,.g 0 43 4 4,yP a1,.z 0]
theorem zz7(xr:OA)(q:Nat)(a0:Pu n 211 [ndV (zg 4 []) (some ⟨q,0,none⟩) 1,.bool false,.bool false,.bool false,iv 1,iv 1] (.bool true) (al h.fh 72 (ndL (zg 4 []) (some ⟨q,0,none⟩) 1))):Pu (n+1) 187 [ndV (zg 4 []) (some ⟨q,0,none⟩) 1] (.bool true) h:=
 fpV (kZ h) [aS 72 (ndL (zg 4 []) (some ⟨q,0,none⟩) 1),.l 0 3 0,bF,bF,bF,bT,.g 0 72 0 10,yP a0,.z 0]
theorem zAb(xr:OA)(q:Nat)(s:Bsy)(a0:Pu n 211 [ndV (zg 5 s) (some ⟨q,0,none⟩) 2,.bool false,.bool false,.bool true,iv 2,iv 2] (.bool true) (zn2 h s q))(a1:Pu n 212 [sv (h.nx+1) 0 13 13,.string ⟨⟨s⟩⟩] (.bool true) (al (zn2 h s q) 9 zt3)):Pu (n+1) 187 [ndV (zg 5 s) (some ⟨q,0,none⟩) 2] (.bool true) h:=
 fpV (kZ h) [aS 72 (ndL (zg 5 s) (some ⟨q,0,none⟩) 2),.l 0 3 0,bF,bF,bF,bF,bT,.g 0 72 0 10,yP a0,aS 9 zt3,.l 0 9 8,yP a1,.z 0]
theorem zz9(a0:Pu n 211 [ndV (zg 6 s) xr xn,.bool false,.bool false,.bool true,iv 0,iv 10] (.bool true) (al h.fh 72 (ndL (zg 6 s) xr xn)))(a1:Pu n 213 [.string ⟨⟨s⟩⟩] (.bool true) (al h.fh 72 (ndL (zg 6 s) xr xn))):Pu (n+1) 187 [ndV (zg 6 s) xr xn] (.bool true) h:=
 fpV (kZ h) [aS 72 (ndL (zg 6 s) xr xn),.l 0 3 0,bF,bF,bF,bF,bF,bT,.g 0 72 0 10,yP a0,.l 0 9 8,yP a1,.z 0]
theorem ztE(s:BA)(i n:Nat)(a0:decide ((i:Int) < (s.data.toList.length:Int))=false):Bd n 46 [1,0,1,0,0] Tryz.f213 (zn3 s i) h (.exit 0) [(0,.string s)] h:=
 bdF (kZ h) [yF a0,.z 0]
theorem zzZ(s:BA)(i n:Nat)(_hk:i < s.data.toList.length)(_hl:s.data.toList.length < 4000)(a0:decide ((i:Int) < (s.data.toList.length:Int))=true)(a1:decide (((bAt s (i:Int):Int):Int)≥65)=true)(a2:decide (((bAt s (i:Int):Int):Int)≤90)=true):Bd n 46 [1,0,1,0,0] Tryz.f213 (zn3 s i) h .normal [(0,.string s),(6,iv (s.data.toList.length:Int)),(7,iv ((i:Int)+1))] h:=
 bdF (kZ h) [yT a0,yI 9 s (i:Int),yT a1,yI 9 s (i:Int),yT a2,yW ((i:Int)+1),.z 0]
theorem zz0(s:BA)(i n:Nat)(_hk:i < s.data.toList.length)(_hl:s.data.toList.length < 4000)(a0:decide ((i:Int) < (s.data.toList.length:Int))=true)(a1:decide (((bAt s (i:Int):Int):Int)≥65)=false)(a2:((i:Int)==0)=false)(a3:decide (((bAt s (i:Int):Int):Int) < 48)=false)(a4:decide (((bAt s (i:Int):Int):Int)>57)=false):Bd n 46 [1,0,1,0,0] Tryz.f213 (zn3 s i) h .normal [(0,.string s),(6,iv (s.data.toList.length:Int)),(7,iv ((i:Int)+1))] h:=
 bdF (kZ h) [yT a0,yI 9 s (i:Int),yF a1,yF a2,yI 9 s (i:Int),yF a3,yI 9 s (i:Int),yF a4,yW ((i:Int)+1),.z 0]
theorem zwJ(s:BA)(n:Nat)(a0:Lf n 46 [1,0,1,0,0] Tryz.f213 [(0,.string s),(2,.bool false),(5,.string s),(6,iv s.data.toList.length),(7,iv 0)] h.fh (.exit 0) [(0,.string s)] h.fh)(a1:(!bqS s ⟨#[]⟩)=true)(a2:decide ((s.data.toList.length:Int)≤8)=true):Pu (n+1) 213 [.string s] (.bool true) h:=
 fpV (kZ h) [yS a0 (kZ h.fh),yT a1,yT a2,.z 0]
theorem zxS(a0:Pu n 161 [ndV x xr xn] (.bool true) (al h.fh 72 (ndL x xr xn))):Pu (n+1) 189 [ndV x xr xn] (.bool false) h:=
 fpV (kZ h) [aS 72 (ndL x xr xn),.g 0 72 0 10,yP a0,.z 0]
theorem zBZ(a0:Pu n 187 [ndV x xr xn] (.bool true) (al h.fh 72 (ndL x xr xn)))(a1:Pu n 188 (zjN xr xn) (.bool false) (al h.fh 72 (ndL x xr xn))):Pu (n+1) 161 [ndV x xr xn] (.bool true) h:=
 fpV (kZ h) [aS 72 (ndL x xr xn),.g 0 72 0 10,yP a0,.l 0 70 9,yP a1,.z 0]
theorem zBN(n:Nat)(a0:Pu n 214 (zjN xr xn) (iv (-1)) h.fh):Pu (n+1) 188 (zjN xr xn) (.bool false) h:=
 fpV (kZ h) [yP a0,bF,.z 0]
theorem zlM(i n:Nat)(a0:decide ((i:Int) < xn)=false):Bd n 19 [1,0,1,0,0] Tryz.f214 [(0,.slice xr xn xn),(1,.func (.func 189) #[] #[]),(7,iv xn),(8,iv (i:Int))] h (.exit 0) [] h:=
 bdF (kZ h) [yF a0]
theorem zxa(_h1:i < j)(_h2:j < 4000)(a0:decide ((i:Int) < j)=true)(a1:LD h 72 ab (0+i * 10) (ndV x xr xn))(a2:Pu n 189 [ndV x xr xn] (.bool false) h):Bd n 19 [1,0,1,0,0] Tryz.f214 [(0,sv ab 0 j j),(1,.func (.func 189) #[] #[]),(7,iv j),(8,iv (i:Int))] h .normal [(0,sv ab 0 j j),(1,.func (.func 189) #[] #[]),(7,iv j),(8,iv ((i:Int)+1))] h:=
 bdF (kZ h) [yT a0,iA 70 72 10 ab j i,yE a1,yP a2,yW ((i:Int)+1),.z 0]
theorem zpW(n:Nat)(a0:Lf n 19 [1,0,1,0,0] Tryz.f214 [(0,.slice xr xn xn),(1,.func (.func 189) #[] #[]),(4,iv 0),(6,.slice xr xn xn),(7,iv xn),(8,iv 0)] h.fh (.exit 0) [] h.fh):Pu (n+1) 214 (zjN xr xn) (iv (-1)) h:=
 fpV (kZ h) [yS a0 (kZ h.fh),.z 0]
theorem zA8(d n:Nat)(x:Hd)(xr:OA)(xn:Nat)(a0:Pu n 127 [ndV x xr xn] (.bool true) (al h.fh 72 (ndL x xr xn)))(a1:Pu n 161 [ndV x xr xn] (.bool true) (al h.fh 72 (ndL x xr xn)))(a2:Pu n 162 [ndV x xr xn] (iv (d:Int)) (al h.fh 72 (ndL x xr xn)))(a3:decide ((d:Int)≤16)=true):Pu (n+1) 129 [ndV x xr xn] (.bool true) h:=
 fpV (kZ h) [aS 72 (ndL x xr xn),.g 0 72 0 10,yP a0,.g 0 72 0 10,yP a1,.g 0 72 0 10,yP a2,yT a3,.z 0]
end
theorem vz(h:Heap)(n:Nat)(hn:1≤n):RD n 94 [.agg #[iv 0,iv 0,.string ⟨#[]⟩],.agg #[iv 0,iv 0,.string ⟨#[]⟩]] h=some (.bool true,h):=yk 0 0 0 0 ⟨#[]⟩ ⟨#[]⟩ h n hn
abbrev LfW(m:Nat):=Loops En (RD m) 28 18446744073709551616 (sub [1,1,0,1,0,0] (zp Tryz.f159))
abbrev zaO(v:Nat):AObj:=.row 3 [iv (v:Int)] 0 false
mutual
theorem zii:∀ (t:Tr) (m:Nat) (h:Heap) (P:Nat→Prop) (x:Hd) (r:OA) (n L v:Nat),zc h P x r n t→(∀ b,P b→b≠L)→h.get L=some (zaO v)→t.size≤v→v < 4000→t.depth≤m→
  ∃ h',RD m 159 [ndV x r n,pv L 0] h=some (.bool true,h')∧Fr h h' L∧h'.get L=some (zaO (v - t.size))∧h'.wm=min h.wm L
 | .node y ts,m,h,P,x,r,n,L,v,N,hP,hg,hs,hv,hm=>by
  unfold Tr.depth at hm
  unfold Tr.size at hs ⊢
  obtain⟨m,rfl⟩:=zs_ m
  have hL:=za hg
  unfold zc at N
  obtain⟨_,rfl,N⟩:=N
  have g0:(al h.fh 72 (ndL x r ts.length)).get L=some (zaO v):=gA (h:=h.fh) hg
  have l0:L < (al h.fh 72 (ndL x r ts.length)).nx:=Nat.lt_succ_of_lt hL
  have F0:Fr h.fh (pt (al h.fh 72 (ndL x r ts.length)) L 3 [iv ((v:Int) - 1)]) L:=(Fr.alloc h.fh _ L).trans (Fr.put _ L _ l0)
  have e0:((v:Int) - 1)=((v - 1:Nat):Int):=by omega
  have gL:(pt (al h.fh 72 (ndL x r ts.length)) L 3 [iv ((v:Int) - 1)]).get L=some (zaO (v - 1)):=by rw[e0];exact gP l0
  have wA:(al h.fh 72 (ndL x r ts.length)).wm=h.nx:=rfl
  have w0:(pt (al h.fh 72 (ndL x r ts.length)) L 3 [iv ((v:Int) - 1)]).wm=L:=by rw[ze,wA];omega
  have key:∀ hL' R,R≤4500→LfW m [(1,pv L 0),(17,.slice r ts.length ts.length),(18,iv ts.length),(19,iv ((0:Nat):Int))] (pt (al h.fh 72 (ndL x r ts.length)) L 3 [iv ((v:Int) - 1)]) (.exit 0) [] hL' R→Fr (pt (al h.fh 72 (ndL x r ts.length)) L 3 [iv ((v:Int) - 1)]) hL' L→hL'.get L=some (zaO (v - 1 - zo ts))→hL'.wm=L→
    ∃ h',RD (m+1) 159 [ndV x r ts.length,pv L 0] h=some (.bool true,h')∧Fr h h' L∧h'.get L=some (zaO (v - (1+zo ts)))∧h'.wm=min h.wm L:=fun hL' R hR LL FF gg ww=>by
   refine⟨_,ur (zxd h hL' L m v x r ts.length hg hv (dF (by omega)) (LL.fact2 (by omega) (by kernel_rfl))) (by omega),((F0.trans FF).wm _).of_wm,?_,?_⟩
   ·show hL'.get L=_
    rw[gg];congr 2;omega
   ·show min h.wm hL'.wm=_
    rw[ww]
  rcases N with⟨rfl,rfl⟩|⟨b,cs,es,ro,rfl,hb,hgb,hA⟩
  ·exact key _ 1 (by omega) (.out (zlX _ none 0 L 0 m rfl)) (Fr.refl _ _) (by rw[gL];simp[zo]) w0
  ·have hbl:=za hgb
   have hbn:b≠L:=hP b hb
   have G0:∀ c o,P c→h.get c=some o→P c∧(pt (al h.fh 72 (ndL x (some ⟨b,0,none⟩) ts.length)) L 3 [iv ((v:Int) - 1)]).get c=some o:=fun c o hc e=>⟨hc,(F0.get c (za e) (hP c hc)).trans e⟩
   have hl:=zS ts
   obtain⟨H,R,hR,LL,FF,gg,w1,w2⟩:=zg8 ts m b ts.length P 0 _ cs cs es ro L (v - 1) (hA.mono G0) hP ((F0.get b hbl hbn).trans hgb) hbn (by rw[Nat.zero_mul];rfl) (by omega) (by omega) gL (by omega) (by omega) (by omega)
   exact key H R (by omega) LL FF gg (by omega)
theorem zg8:∀ (l:List Tr) (m ab j:Nat) (P:Nat→Prop) (i:Nat) (h:Heap) (cs cs':Vs) (es:Nat) (ro:Bool) (L v:Nat),ArgsC h P cs' l→(∀ b,P b→b≠L)→h.get ab=some (.row 72 cs es ro)→ab≠L→cs.drop (i * 10)=cs'→i+l.length=j→j < 4000→h.get L=some (zaO v)→zo l≤v→v < 4000→zx l≤m→
  ∃ H R,R≤l.length+1∧LfW m [(1,pv L 0),(17,sv ab 0 j j),(18,iv j),(19,iv (i:Int))] h (.exit 0) [] H R∧Fr h H L∧H.get L=some (zaO (v - zo l))∧min h.wm L≤H.wm∧H.wm≤h.wm
 |[],m,ab,j,P,i,h,cs,cs',es,ro,L,v,A,hP,hg,ha,hd,hi,hj,hL,hs,hv,hm=>⟨h,1,by omega,.out (zlX h (some ⟨ab,0,none⟩) j L i m (zE (by simp only[lN] at hi;omega))),Fr.refl _ _,by rw[hL];simp[zo],by omega,by omega⟩
 |t::l,m,ab,j,P,i,h,cs,cs',es,ro,L,v,A,hP,hg,ha,hd,hi,hj,hL,hs,hv,hm=>by
  unfold ArgsC at A
  obtain⟨x,r,n,cs2,e,N,A2⟩:=A
  unfold zo at hs ⊢
  unfold zx at hm
  rw[lC] at hi
  have ld:=zcG hg (hd.trans e)
  have hlL:=za hL
  have Kb:Kp h (pt (al h 72 z72) h.nx 72 (ndL x r n)):=((Kp.refl h).al _ _).pt _ _ (nL_ _) (nS _)
  have w1:(pt (al h 72 z72) h.nx 72 (ndL x r n)).wm=min h.nx h.wm:=ze _ _ _
  have G0:∀ c o,P c→h.get c=some o→P c∧(pt (al h 72 z72) h.nx 72 (ndL x r n)).get c=some o:=fun c o hc e=>⟨hc,(Kb.get c (za e)).trans e⟩
  obtain⟨h1,e1,F1,g1,wh⟩:=zii t m (pt (al h 72 z72) h.nx 72 (ndL x r n)) P x r n L v (N.mono G0) hP ((Kb.get _ hlL).trans hL) (by omega) hv (by omega)
  have F:=(Kb.fr L).trans F1
  have hb:=zxc h h1 L ab j i m x r n (by omega) hj (zw (by omega)) ld e1
  obtain⟨H,R,hR,LL,FF,gg,w2,w3⟩:=zg8 l m ab j P (i+1) h1 cs cs2 es ro L (v - t.size) (A2.mono fun c o hc e=>⟨hc,(F.get c (za e) (hP c hc)).trans e⟩) hP ((F.get _ (za hg) ha).trans hg) ha
   (by rw[show(i+1) * 10=i * 10+10 by omega,← List.drop_drop,hd,e,List.drop_append,List.drop_eq_nil_of_le (by rw[jl];exact nL_ _),jl];rfl) (by omega) hj g1 (by omega) (by omega) (by omega)
  exact⟨H,R+1,by rw[lC];omega,.on hb LL,F.trans FF,by rw[gg,show v - t.size - zo l=v - (t.size+zo l) by omega],by omega,by omega⟩
end
theorem zb0{t:Tr}{h:Heap}{P:Nat→Prop}{x:Hd}{r:OA}{n:Nat}(N:zc h P x r n t)(m:Nat)(hs:t.size≤2000)(hm:t.depth+1≤m):RD m 127 [ndV x r n] h=some (.bool true,h):=by
 obtain⟨m,rfl⟩:=zs_ m
 have l1:h.nx+1 < (al (al h.fh 72 (ndL x r n)) 3 [iv 0]).nx:=nS _
 have K0:Kp h.fh (pt (al (al h.fh 72 (ndL x r n)) 3 [iv 0]) (h.nx+1) 3 [iv 2000]):=(((Kp.refl h.fh).al _ _).al _ _).pt _ _ (by show h.nx≤h.nx+1;omega) l1
 obtain⟨h1,e1,F1,g1,w1⟩:=zii t m (pt (al (al h.fh 72 (ndL x r n)) 3 [iv 0]) (h.nx+1) 3 [iv 2000]) (fun b=>P b∧b < h.nx) x r n (h.nx+1) 2000 (zc.mono (h:=h) (fun c o hc e=>⟨⟨hc,za e⟩,(K0.get c (za e)).trans e⟩) N) (fun b hb=>by omega) (gP l1) hs (by omega) (by omega)
 have w0:(pt (al (al h.fh 72 (ndL x r n)) 3 [iv 0]) (h.nx+1) 3 [iv 2000]).wm=min (h.nx+1) h.nx:=ze _ _ _
 exact(zvJ h h1 m x r n e1).trans (congrArg some (zk (by omega) rfl))
/-! The nodes one by one. -/
theorem zqO(l:Bsy)(n:Nat)(h:Heap)(hl:l.length≤8)(c:UInt8)(r:Bsy)(e:l=c::r)(h1:65≤c.toNat)(h2:c.toNat≤90)(h3:r.all uP=true):∀ (k i:Nat),i+k=l.length→
  Loops En (RD n) 46 18446744073709551616 (sub [1,0,1,0,0] (zp Tryz.f213)) [(0,.string ⟨⟨l⟩⟩),(6,iv (l.length:Int)),(7,iv (i:Int))] h (.exit 0) [(0,.string ⟨⟨l⟩⟩)] h (k+1):=by
 intro k
 induction k with
 |zero=>exact fun i hi=>.out (ztE h ⟨⟨l⟩⟩ i n (zE (a:=i) (b:=l.length) (by omega)))
 |succ k ih=>
  intro i hi
  have hlt:i < l.length:=by omega
  have hb:bAt ⟨⟨l⟩⟩ (i:Int)=(l[i]'hlt).toNat:=by unfold bAt;simp[hlt]
  have lt:=zw (a:=i) (b:=l.length) hlt
  have L:=ih (i+1) (by omega)
  by_cases hc:65≤(l[i]'hlt).toNat∧(l[i]'hlt).toNat≤90
  ·exact .on (zzZ h ⟨⟨l⟩⟩ i n hlt (by show l.length < 4000;omega) lt (by rw[hb];exact dT (by omega)) (by rw[hb];exact dT (by omega))) L
  ·have hw:uP (l[i]'hlt)=true∧i≠0:=by
    cases i with
    |zero=>subst e;exact absurd ⟨h1,h2⟩ hc
    |succ i=>subst e;exact⟨List.all_eq_true.1 h3 _ (by simp),by omega⟩
   have hd:48≤(l[i]'hlt).toNat∧(l[i]'hlt).toNat≤57:=by
    have:=hw.1
    unfold uP at this
    simp only[Bool.or_eq_true,bA,decide_eq_true_eq] at this
    omega
   exact .on (zz0 h ⟨⟨l⟩⟩ i n hlt (by show l.length < 4000;omega) lt (by rw[hb];exact dF (by omega)) (neK (k:=0) hw.2) (by rw[hb];exact dF (by omega)) (by rw[hb];exact dF (by omega))) L
theorem zp2{l:Bsy}(w:zdI l)(h:Heap)(n:Nat)(hn:1≤n):RD n 213 [.string ⟨⟨l⟩⟩] h=some (.bool true,h):=by
 obtain⟨n,rfl⟩:=zs_ n
 obtain⟨hl,c,r,e,h1,h2,h3⟩:=w
 have hne:l≠[]:=by rw[e];simp
 exact zwJ h ⟨⟨l⟩⟩ n ((zqO l n h.fh hl c r e h1 h2 h3 l.length 0 (by omega)).fact2 (by omega) (by kernel_rfl)) (congrArg (! ·) ((zZ l []).trans (dF hne))) (dT (by show((l.length:Nat):Int)≤8;omega))
theorem zls{l:Bsy}(hl:l∈wq){g:Heap}{n:Nat}(hn:2≤n){q:Nat}(hg:g.get q=some (.row 9 (wq.map fun s=>.string ⟨⟨s⟩⟩) 0 false)):RD n 212 [sv q 0 13 13,.string ⟨⟨l⟩⟩] g=some (.bool true,g):=by
 have:=zcn l n hn hg (by decide)
 rw[dT hl] at this
 exact this
theorem zrA{r c r' c':Nat}(h1:inG r c)(h2:inG r' c')(hr:r≤r')(hc:c≤c')(h:Heap)(n:Nat)(hn:2≤n):RD n 114 [.agg #[iv (r:Int),iv (c:Int),iv (r':Int),iv (c':Int)]] h=some (.bool true,h):=by
 obtain⟨n,rfl⟩:=zs_ n
 exact zBd h n r c r' c' (uQ h1 _ n (by omega)) (uQ h2 _ n (by omega)) (dT (by omega)) (dT (by omega))
theorem zq1{t:Tr}(g:GT t){h:Heap}{P:Nat→Prop}{x:Hd}{r:OA}{n:Nat}(N:zc h P x r n t)(m:Nat)(hm:4≤m):RD m 187 [ndV x r n] h=some (.bool true,h):=by
 obtain⟨m,rfl⟩:∃ k,m=k+1+1:=⟨m - 2,by omega⟩
 cases g <;>(unfold zc at N;obtain⟨rfl,rfl,N⟩:=N)
 case int b hb=>exact zz8 h (m+1) r b (dT (by omega)) (zoC _ m r _ _ _ ja) (qu 2 b ⟨#[]⟩ _ _ (by omega))
 case text s hs=>
  have e:=qu 3 0 ⟨⟨s⟩⟩ (al h.fh 72 (ndL (zz 3 0 s) r 0)) (m+1) (by omega)
  have:wV 3 0 ⟨⟨s⟩⟩= .bool true:=by
   show(bif decide ((s.length:Int)≤200) then Value.bool true else .bool false)=_
   rw[dT (by omega)];rfl
  rw[this] at e
  exact zz5 h (m+1) r s (zoC _ m r _ _ _ ja) e
 case bool b hb=>
  refine zAa h (m+1) r b (zoC _ m r _ _ _ ja) ?_
  match b,hb with
  |0,_=>exact qu 1 0 ⟨#[]⟩ _ _ (by omega)
  |1,_=>exact qu 1 1 ⟨#[]⟩ _ _ (by omega)
 case cell a c hG=>exact zz6 h (m+1) r a c (zBl _ m r a c (vz _ _ (by omega))) (uQ hG _ _ (by omega)) (zj3 0 0)
 case range a c a' c' h1 h2 hr hc=>exact zwK h (m+1) r a c a' c' (zxn _ m r a c a' c' (vz _ _ (by omega))) (zrA h1 h2 hr hc _ _ (by omega))
 case neg t ht=>
  rcases N with⟨e,_⟩|⟨b,cs,es,ro,rfl,_⟩
  ·cases e
  exact zz7 h (m+1) none b (zBm _ m none b (vz _ _ (by omega)) ja)
 case two s x y hs hx hy=>
  rcases N with⟨e,_⟩|⟨b,cs,es,ro,rfl,_⟩
  ·cases e
  exact zAb h (m+1) none b s (zBo _ m none b s (vz _ _ (by omega)) ja) (zls hs (by omega) gN)
 case call nm l hw hl hh=>exact zz9 h (m+1) r l.length nm (zBn _ m r l.length nm (vz _ _ (by omega)) ja (dT (by omega)) (dT (by omega))) (zp2 hw _ _ (by omega))
/-! All of them. -/
theorem zie(m ab j:Nat)(P:Nat→Prop):∀ (l:List Tr) (i:Nat) (h:Heap) (cs cs':Vs) (es:Nat) (ro:Bool),(∀ t∈l,∀ (h:Heap) (x:Hd) (r:OA) (n:Nat),zc h P x r n t→RD m 189 [ndV x r n] h=some (.bool false,h))→ArgsC h P cs' l→h.get ab=some (.row 72 cs es ro)→cs.drop (i * 10)=cs'→i+l.length=j→j < 4000→
  Loops En (RD m) 19 18446744073709551616 (sub [1,0,1,0,0] (zp Tryz.f214)) [(0,sv ab 0 j j),(1,.func (.func 189) #[] #[]),(7,iv j),(8,iv (i:Int))] h (.exit 0) [] h (l.length+1)
 |[],i,h,cs,cs',es,ro,hf,A,hg,hd,hi,hj=>.out (zlM h (some ⟨ab,0,none⟩) j i m (zE (by simp only[lN] at hi;omega)))
 |t::l,i,h,cs,cs',es,ro,hf,A,hg,hd,hi,hj=>by
  unfold ArgsC at A
  obtain⟨x,r,n,cs2,e,N,A2⟩:=A
  rw[lC] at hi
  exact .on (zxa h ab j i m x r n (by omega) hj (zw (by omega)) (zcG hg (hd.trans e)) (hf t (List.mem_cons_self ..) h x r n N)) (zie m ab j P l (i+1) h cs cs2 es ro (fun t ht=>hf t (List.mem_cons_of_mem _ ht)) A2 hg
   (by rw[show(i+1) * 10=i * 10+10 by omega,← List.drop_drop,hd,e,List.drop_append,List.drop_eq_nil_of_le (by rw[jl];exact nL_ _),jl];rfl) (by omega) hj)
theorem ziy:∀ (d:Nat) (t:Tr),GT t→t.depth≤d→∀ (m:Nat) (h:Heap) (P:Nat→Prop) (x:Hd) (r:OA) (n:Nat),zc h P x r n t→4 * d+1≤m→RD m 161 [ndV x r n] h=some (.bool true,h)
 |0,.node y ts,_,hd,_,_,_,_,_,_,_,_=>by unfold Tr.depth at hd;omega
 |d+1,.node y ts,g,hd,m,h,P,x,r,n,N,hm=>by
  obtain⟨m,rfl⟩:∃ k,m=k+1+1+1+1:=⟨m - 4,by omega⟩
  unfold Tr.depth at hd
  have ga:=g.args
  have N1:zc (al h.fh 72 (ndL x r n)) P x r n (.node y ts):=zc.mono (h:=h) (fun c o hc e=>⟨hc,gA (h:=h.fh) e⟩) N
  refine zBZ h _ x r n (zq1 g N1 _ (by omega)) ?_
  unfold zc at N1
  obtain⟨_,rfl,N1⟩:=N1
  refine zBN _ r _ (m+1+1) ?_
  rcases N1 with⟨rfl,rfl⟩|⟨b,cs,es,ro,rfl,hb,hgb,hA⟩
  ·have L:Loops En (RD (m+1)) 19 18446744073709551616 (sub [1,0,1,0,0] (zp Tryz.f214)) [(0,.slice none 0 0),(1,.func (.func 189) #[] #[]),(7,iv ((0:Nat):Int)),(8,iv ((0:Nat):Int))] _ (.exit 0) [] _ 1:=.out (zlM (al h.fh 72 (ndL x none 0)).fh none 0 0 (m+1) rfl)
   exact zpW _ none 0 (m+1) (L.fact2 (by omega) (by kernel_rfl))
  ·have L:=zie (m+1) b ts.length P ts 0 (al h.fh 72 (ndL x (some ⟨b,0,none⟩) ts.length)).fh cs cs es ro (fun t ht h x r n N=>zxS h m x r n (ziy d t (ga.1 t ht) (by have:=ux ht;omega) m _ P x r n (zc.mono (h:=h) (fun c o hc e=>⟨hc,gA (h:=h.fh) e⟩) N) (by omega))) (ArgsC.mono (h:=al h.fh 72 (ndL x (some ⟨b,0,none⟩) ts.length)) (g:=(al h.fh 72 (ndL x (some ⟨b,0,none⟩) ts.length)).fh) (fun _ _ hc e=>⟨hc,e⟩) hA) hgb (by rw[Nat.zero_mul];rfl) (by omega) (by omega)
   exact zpW _ _ _ (m+1) (L.fact2 (by omega) (by kernel_rfl))
theorem zrx{t:Tr}(g:GT t){h:Heap}{P:Nat→Prop}{x:Hd}{r:OA}{n:Nat}(N:zc h P x r n t)(hs:t.size≤300)(hd:t.depth≤16)(m:Nat)(hm:70≤m):RD m 129 [ndV x r n] h=some (.bool true,h):=by
 obtain⟨m,rfl⟩:=zs_ m
 have N1:zc (al h.fh 72 (ndL x r n)) P x r n t:=zc.mono (h:=h) (fun c o hc e=>⟨hc,gA (h:=h.fh) e⟩) N
 exact zA8 h t.depth m x r n (zb0 N1 m (by omega) (by omega)) (ziy 16 t g hd m _ P x r n N1 (by omega)) (zcm t m _ P x r n N1 (by omega) (by omega)) (dT (by omega))
noncomputable section
abbrev zjM:Vs:=[.pointer none,.slice none 0 0]
abbrev zn1(h:Heap)(s:Bsy)(q:Nat):Heap:=al h.fh 72 (ndL (zg 5 s) (some ⟨q,0,none⟩) 2)
variable (h:Heap) (b:Int) (h1 h2 h3:Heap) (W ab j q r R i k k2 n:Nat) (y:Hd) (yr:OA) (yn:Nat) (x:Hd) (xr:OA) (xn:Nat) (s t:BA)
theorem zni:Pu (n+1) 192 [ndV (hk 1 x) xr xn] (iv 6) h:=
 fpV (kZ h) [aS 72 (ndL (hk 1 x) xr xn),.l 0 3 0,bT,yV (iv 1),yV (iv 6),.z 0]
theorem zzo:Pu (n+1) 192 [ndV (hk 2 x) xr xn] (iv 6) h:=
 fpV (kZ h) [aS 72 (ndL (hk 2 x) xr xn),.l 0 3 0,bF,bT,yV (iv 1),yV (iv 6),.z 0]
theorem zzn:Pu (n+1) 192 [ndV (hk 3 x) xr xn] (iv 6) h:=
 fpV (kZ h) [aS 72 (ndL (hk 3 x) xr xn),.l 0 3 0,bF,bF,bT,yV (iv 1),yV (iv 6),.z 0]
theorem zzk:Pu (n+1) 192 [ndV (hk 6 x) xr xn] (iv 6) h:=
 fpV (kZ h) [aS 72 (ndL (hk 6 x) xr xn),.l 0 3 0,bF,bF,bF,bT,yV (iv 1),yV (iv 6),.z 0]
theorem zzm:Pu (n+1) 192 [ndV (hk 4 x) xr xn] (iv 5) h:=
 fpV (kZ h) [aS 72 (ndL (hk 4 x) xr xn),.l 0 3 0,bF,bF,bF,bF,bT,yV (iv 5),.z 0]
theorem zzl(b:Nat)(x:Hd)(xr:OA)(xn:Nat)(a0:Pu n 193 [.string x.nm] (iv (b:Int)) (al h.fh 72 (ndL (hk 5 x) xr xn))):Pu (n+1) 192 [ndV (hk 5 x) xr xn] (iv (b:Int)) h:=
 fpV (kZ h) [aS 72 (ndL (hk 5 x) xr xn),.l 0 3 0,bF,bF,bF,bF,bF,bT,.l 0 9 8,yP a0,.z 0]
theorem zy8(a0:Pu n 193 [.string s] (iv 1) h.fh):Pu (n+1) 166 [.string s] (.tuple #[iv 2,iv 2]) h:=
 fpT (kZ h) [yP a0,bF,bF,bF,.z 0]
theorem zy7(a0:Pu n 193 [.string s] (iv 2) h.fh):Pu (n+1) 166 [.string s] (.tuple #[iv 2,iv 3]) h:=
 fpT (kZ h) [yP a0,bT,.z 0]
theorem zy6(a0:Pu n 193 [.string s] (iv 3) h.fh):Pu (n+1) 166 [.string s] (.tuple #[iv 3,iv 4]) h:=
 fpT (kZ h) [yP a0,bF,bT,.z 0]
theorem zy5(a0:Pu n 193 [.string s] (iv 4) h.fh):Pu (n+1) 166 [.string s] (.tuple #[iv 5,iv 4]) h:=
 fpT (kZ h) [yP a0,bF,bF,bT,.z 0]
theorem zAD(a0:Pu n 192 [ndV x xr xn] (iv (r:Int)) (al h.fh 72 (ndL x xr xn)))(a1:decide ((r:Int)≥(R:Int))=true)(a2:RD n 130 [pv W 0,ndV x xr xn] (al h.fh 72 (ndL x xr xn))=some (.tuple #[],h1)):Fn n 165 [pv W 0,ndV x xr xn,iv (R:Int)] h (.tuple #[]) h1:=
 fnT (kZ h) [aS 72 (ndL x xr xn),.g 0 72 0 10,yP a0,yT a1,.g 0 72 0 10,yC a2 (kZ h1)]
theorem zAE(g1_:h1.get h.nx=some (.row 72 (ndL x xr xn) 0 false))(a0:Pu n 192 [ndV x xr xn] (iv (r:Int)) (al h.fh 72 (ndL x xr xn)))(a1:decide ((r:Int)≥(R:Int))=false)(a2:RD n 163 [pv W 0,.string ⟨#[40]⟩] (al h.fh 72 (ndL x xr xn))=some (.tuple #[iv (k:Int),.nilIface],h1))(a3:RD n 130 [pv W 0,ndV x xr xn] h1=some (.tuple #[],h2))(a4:RD n 163 [pv W 0,.string ⟨#[41]⟩] h2=some (.tuple #[iv (k2:Int),.nilIface],h3)):Fn n 165 [pv W 0,ndV x xr xn,iv (R:Int)] h (.tuple #[]) h3:=
 fnT (kZ h) [aS 72 (ndL x xr xn),.g 0 72 0 10,yP a0,yF a1,yC a2 (kI (ko g1_)),.g 0 72 0 10,yC a3 (kZ h2),yC a4 (kZ h3)]
theorem zBF(n:Nat)(a0:Pu n 45 [iv b] (.string s) (al h.fh 27 [iv 2,iv b,.string ⟨#[]⟩])):Pu (n+1) 164 [.agg #[iv 2,iv b,.string ⟨#[]⟩]] (.string s) h:=
 fpV (kZ h) [aS 27 [iv 2,iv b,.string ⟨#[]⟩],.l 0 3 0,bT,.l 0 2 1,yP a0,.z 0]
theorem zBE(n:Nat)(a0:Pu n 191 [.string s] (.string t) (al h.fh 27 [iv 3,iv 0,.string s])):Pu (n+1) 164 [.agg #[iv 3,iv 0,.string s]] (.string t) h:=
 fpV (kZ h) [aS 27 [iv 3,iv 0,.string s],.l 0 3 0,bF,bT,.l 0 9 2,yP a0,.z 0]
theorem zBG(n:Nat)(a0:Pu n 25 [.agg #[iv 1,iv b,.string ⟨#[]⟩]] (.string s) (al h.fh 27 [iv 1,iv b,.string ⟨#[]⟩])):Pu (n+1) 164 [.agg #[iv 1,iv b,.string ⟨#[]⟩]] (.string s) h:=
 fpV (kZ h) [aS 27 [iv 1,iv b,.string ⟨#[]⟩],.l 0 3 0,bF,bF,.g 0 27 0 3,yP a0,.z 0]
theorem zzr(n:Nat)(_h:t.size≤10000)(a0:Pu n 216 [.string s,.string ⟨#[34]⟩,.string ⟨#[34,34]⟩] (.string t) h.fh):Pu (n+1) 191 [.string s] (.string ((⟨#[34]⟩++t)++⟨#[34]⟩)) h:=
 fpV (kZ h) [yP a0,yG ⟨#[34]⟩ t,yG (⟨#[34]⟩++t) ⟨#[34]⟩,.z 0]
theorem znU(a b:Int)(s:Bsy)(t:BA)(a0:Pu n 164 [.agg #[iv a,iv b,.string ⟨⟨s⟩⟩]] (.string t) (al h.fh 72 (ndL (zz a b s) xr 0)))(a1:RD n 163 [pv W 0,.string t] (al h.fh 72 (ndL (zz a b s) xr 0))=some (.tuple #[iv (k:Int),.nilIface],h1)):Fn n 130 [pv W 0,ndV (zz a b s) xr 0] h (.tuple #[]) h1:=
 fnT (kZ h) [aS 72 (ndL (zz a b s) xr 0),.l 0 3 0,bT,.g 0 27 1 3,yP a0,yC a1 (kZ h1),yN (h.nx+1),.j 0,.q (.g 0 27 1 3),.j 1]
theorem zAc(r c:Int)(t:BA)(a0:Pu n 24 [.agg #[iv r,iv c]] (.string t) (al h.fh 72 (ndL (zF 2 r c 0 0) xr 0)))(a1:RD n 163 [pv W 0,.string t] (al h.fh 72 (ndL (zF 2 r c 0 0) xr 0))=some (.tuple #[iv (k:Int),.nilIface],h1)):Fn n 130 [pv W 0,ndV (zF 2 r c 0 0) xr 0] h (.tuple #[]) h1:=
 fnT (kZ h) [aS 72 (ndL (zF 2 r c 0 0) xr 0),.l 0 3 0,bF,bT,.g 0 29 4 2,yP a0,yC a1 (kZ h1),yN (h.nx+1),.j 0,.q (.g 0 29 4 2),.j 1]
theorem zwP(r c r1 c1:Int)(t u:BA)(_h:t.size≤100)(_h2:u.size≤100)(a0:Pu n 24 [.agg #[iv r,iv c]] (.string t) (al h.fh 72 (ndL (zF 3 r c r1 c1) xr 0)))(a1:Pu n 24 [.agg #[iv r1,iv c1]] (.string u) (al h.fh 72 (ndL (zF 3 r c r1 c1) xr 0)))(a2:RD n 163 [pv W 0,.string ((t++⟨#[58]⟩)++u)] (al h.fh 72 (ndL (zF 3 r c r1 c1) xr 0))=some (.tuple #[iv (k:Int),.nilIface],h1)):Fn n 130 [pv W 0,ndV (zF 3 r c r1 c1) xr 0] h (.tuple #[]) h1:=
 fnT (kZ h) [aS 72 (ndL (zF 3 r c r1 c1) xr 0),.l 0 3 0,bF,bF,bT,.g 0 29 4 2,yP a0,yG t ⟨#[58]⟩,.g 0 29 6 2,yP a1,yG (t++⟨#[58]⟩) u,yC a2 (kZ h1),yN (h.nx+1),.j 0,.q (.g 0 29 4 2),.q (.g 0 29 6 2),.q (.g 0 29 6 2),.j 1]
theorem zAd(g1_:h1.get h.nx=some (.row 72 (ndL (zg 4 []) (some ⟨q,0,none⟩) 1) 0 false))(a0:RD n 163 [pv W 0,.string ⟨#[45]⟩] (al h.fh 72 (ndL (zg 4 []) (some ⟨q,0,none⟩) 1))=some (.tuple #[iv (k:Int),.nilIface],h1))(a1:LD h1 72 q 0 (ndV y yr yn))(a2:RD n 165 [pv W 0,ndV y yr yn,iv 5] h1=some (.tuple #[],h2)):Fn n 130 [pv W 0,ndV (zg 4 []) (some ⟨q,0,none⟩) 1] h (.tuple #[]) h2:=
 fnT (kZ h) [aS 72 (ndL (zg 4 []) (some ⟨q,0,none⟩) 1),.l 0 3 0,bF,bF,bF,bT,yC a0 (kI (ko g1_)),.l 0 70 9,yV (pv q 0),yE a1,yC a2 (kZ h2)]
theorem zAf(A B n:Nat)(s:Bsy)(y w:Hd)(yr wr:OA)(yn wn:Nat)(g1_:h1.get h.nx=some (.row 72 (ndL (zg 5 s) (some ⟨q,0,none⟩) 2) 0 false))(g2_:h2.get h.nx=some (.row 72 (ndL (zg 5 s) (some ⟨q,0,none⟩) 2) 0 false))(a0:Pu n 166 [.string ⟨⟨s⟩⟩] (.tuple #[iv (A:Int),iv (B:Int)]) (zn1 h s q))(a1:LD (zn1 h s q) 72 q 0 (ndV y yr yn))(a2:RD n 165 [pv W 0,ndV y yr yn,iv (A:Int)] (zn1 h s q)=some (.tuple #[],h1))(a3:RD n 163 [pv W 0,.string ⟨⟨s⟩⟩] h1=some (.tuple #[iv (k:Int),.nilIface],h2))(a4:LD h2 72 q 10 (ndV w wr wn))(a5:RD n 165 [pv W 0,ndV w wr wn,iv (B:Int)] h2=some (.tuple #[],h3)):Fn n 130 [pv W 0,ndV (zg 5 s) (some ⟨q,0,none⟩) 2] h (.tuple #[]) h3:=
 fnT (kZ h) [aS 72 (ndL (zg 5 s) (some ⟨q,0,none⟩) 2),.l 0 3 0,bF,bF,bF,bF,bT,.l 0 9 8,yP a0,.l 0 70 9,yV (pv q 0),yE a1,yC a2 (kI (ko g1_)),.l 0 9 8,yC a3 (kI (ko g2_)),yN h1.nx,.j 1,.q (.l 0 9 8),.j 2,.l 0 70 9,yV (pv q 10),yE a4,yC a5 (kZ h3)]
theorem zAe(hL h2:Heap)(W k k2 n:Nat)(s:Bsy)(xr:OA)(xn:Nat)(_h:(⟨⟨s⟩⟩:BA).size≤100)(g1_:h1.get h.nx=some (.row 72 (ndL (zg 6 s) xr xn) 0 false))(a0:RD n 163 [pv W 0,.string (⟨⟨s⟩⟩++⟨#[40]⟩)] (al h.fh 72 (ndL (zg 6 s) xr xn))=some (.tuple #[iv (k:Int),.nilIface],h1))(a1:Lf n 116 [1,1,0,1,1,1,1,1,1,1,1,1,1,1,0,1,0,1,0,0] Tryz.f130 [(0,pv W 0),(1,ndV (zg 6 s) xr xn),(3,pv h.nx 0),(8,pv h.nx 0),(9,iv 6),(11,.bool false),(10,.bool false),(20,.bool false),(19,.bool false),(30,.bool false),(29,.bool false),(46,.bool false),(45,.bool false),(58,.bool false),(57,.bool false),(86,.bool true),(85,.bool true),(87,pv W 0),(88,pv W 0),(89,pv W 0),(90,pv h.nx 8),(91,.string ⟨⟨s⟩⟩),(92,.string (⟨⟨s⟩⟩++⟨#[40]⟩)),(93,.tuple #[iv (k:Int),.nilIface]),(94,pv h.nx 9),(95,.slice xr xn xn),(96,iv xn),(97,iv 0)] h1 (.exit 1) [(0,pv W 0)] hL)(a2:RD n 163 [pv W 0,.string ⟨#[41]⟩] hL=some (.tuple #[iv (k2:Int),.nilIface],h2)):Fn n 130 [pv W 0,ndV (zg 6 s) xr xn] h (.tuple #[]) h2:=
 fnT (kZ h) [aS 72 (ndL (zg 6 s) xr xn),.l 0 3 0,bF,bF,bF,bF,bF,bT,.l 0 9 8,yG ⟨⟨s⟩⟩ ⟨#[40]⟩,yC a0 (kI (ko g1_)),yN (h.nx+1),.j 0,.q (.l 0 9 8),.j 1,.l 0 70 9,yS a1 (kZ hL),yC a2 (kZ h2)]
theorem zlz(W i n:Nat)(a0:decide ((i:Int) < xn)=false):Bd n 116 [1,1,0,1,1,1,1,1,1,1,1,1,1,1,0,1,0,1,0,0] Tryz.f130 [(0,pv W 0),(95,.slice xr xn xn),(96,iv xn),(97,iv (i:Int))] h (.exit 1) [(0,pv W 0)] h:=
 bdF (kZ h) [yF a0,.z 0]
theorem zAj(_h1:i < j)(_h2:j < 4000)(a0:decide ((i:Int) < j)=true)(a1:LD h 72 ab (0+i * 10) (ndV x xr xn))(a2:decide ((i:Int)>0)=false)(a3:RD n 130 [pv W 0,ndV x xr xn] (pt (al h 72 z72) h.nx 72 (ndL x xr xn))=some (.tuple #[],h1)):Bd n 116 [1,1,0,1,1,1,1,1,1,1,1,1,1,1,0,1,0,1,0,0] Tryz.f130 [(0,pv W 0),(95,sv ab 0 j j),(96,iv j),(97,iv (i:Int))] h .normal [(0,pv W 0),(95,sv ab 0 j j),(96,iv j),(97,iv ((i:Int)+1))] h1:=
 bdF (kZ h) [yT a0,iA 70 72 10 ab j i,yE a1,aS 72 z72,.w 0 72 0 (ndV x xr xn),yF a2,.g 0 72 0 10,yC a3 (kZ h1),yW ((i:Int)+1),.z 0]
theorem zAi(_h1:i < j)(_h2:j < 4000)(g1_:h1.get h.nx=some (.row 72 (ndL x xr xn) 0 false))(a0:decide ((i:Int) < j)=true)(a1:LD h 72 ab (0+i * 10) (ndV x xr xn))(a2:decide ((i:Int)>0)=true)(a3:RD n 163 [pv W 0,.string ⟨#[44]⟩] (pt (al h 72 z72) h.nx 72 (ndL x xr xn))=some (.tuple #[iv (k:Int),.nilIface],h1))(a4:RD n 130 [pv W 0,ndV x xr xn] h1=some (.tuple #[],h2)):Bd n 116 [1,1,0,1,1,1,1,1,1,1,1,1,1,1,0,1,0,1,0,0] Tryz.f130 [(0,pv W 0),(95,sv ab 0 j j),(96,iv j),(97,iv (i:Int))] h .normal [(0,pv W 0),(95,sv ab 0 j j),(96,iv j),(97,iv ((i:Int)+1))] h2:=
 bdF (kZ h) [yT a0,iA 70 72 10 ab j i,yE a1,aS 72 z72,.w 0 72 0 (ndV x xr xn),yT a2,yC a3 (kI (ko g1_)),.g 0 72 0 10,yC a4 (kZ h2),yW ((i:Int)+1),.z 0]
theorem zyC(a0:Pu n 129 [ndV x xr xn] (.bool true) (al h.fh 72 (ndL x xr xn)))(a1:RD n 130 [pv (h.nx+1) 0,ndV x xr xn] (al (al h.fh 72 (ndL x xr xn)) 228 zjM)=some (.tuple #[],h1))(a2:Pu n 131 [pv (h.nx+1) 0] (iv (k:Int)) h1)(a3:decide ((k:Int)>300)=true):Fn n 97 [ndV x xr xn] h (.tuple #[.string ⟨#[]⟩,iv 2]) h1:=
 fnT (kZ h) [aS 72 (ndL x xr xn),.g 0 72 0 10,yP a0,aS 228 zjM,.g 0 72 0 10,yC a1 (kZ h1),yP a2,yT a3,.z 0]
theorem zyD(h2:Heap)(s:BA)(a0:Pu n 129 [ndV x xr xn] (.bool true) (al h.fh 72 (ndL x xr xn)))(a1:RD n 130 [pv (h.nx+1) 0,ndV x xr xn] (al (al h.fh 72 (ndL x xr xn)) 228 zjM)=some (.tuple #[],h1))(a2:Pu n 131 [pv (h.nx+1) 0] (iv (k:Int)) h1)(a3:decide ((k:Int)>300)=false)(a4:RD n 132 [pv (h.nx+1) 0] h1=some (.string s,h2)):Fn n 97 [ndV x xr xn] h (.tuple #[.string s,iv 0]) h2:=
 fnT (kZ h) [aS 72 (ndL x xr xn),.g 0 72 0 10,yP a0,aS 228 zjM,.g 0 72 0 10,yC a1 (kZ h1),yP a2,yF a3,yC a4 (kZ h2),.z 0]
end
end Go.PanE
