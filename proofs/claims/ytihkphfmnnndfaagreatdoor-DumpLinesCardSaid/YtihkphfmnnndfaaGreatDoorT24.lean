/-
 Part 24 of the proof of Rows.DumpLinesCardSaid. No conditions.
-/
import Derived.Test.YtihkphfmnnndfaaGreatDoorT23
namespace Go.PanE
open Go.Proofs
noncomputable section
abbrev zcx(s:BA):List (Nat×Value):=[(0,.string s),(2,.slice none 0 0),(3,iv 0),(4,iv 0),(9,.string s),(10,iv s.data.toList.length),(11,.bool false),(5,.slice none 0 0),(6,iv 0)]
abbrev vh:Vs:=[iv 0,iv 0,.string ⟨#[]⟩,iv 0]
abbrev vK(k0 n0:Nat)(t:BA)(at_:Nat):Vs:=[iv (k0:Int),iv (n0:Int),.string t,iv (at_:Int)]
abbrev zaD(s:BA)(at_:Nat):List (Nat×Value):=[(0,.string s),(5,.slice none 0 0),(6,iv (at_:Int))]
abbrev zaC(s:BA)(b k at_:Nat):List (Nat×Value):=[(0,.string s),(5,sv b 0 k k),(6,iv (at_:Int))]
abbrev zfy(at_:Nat):List (Nat×Value):=[(2,.slice none 0 0),(3,iv (at_:Int)),(4,iv 12)]
abbrev zfx(s:BA)(at_:Nat):Vs:=[.string (zv s (at_:Int) s.data.toList.length)]
abbrev zfw(k0 n0:Nat)(t:BA):Value:=.agg #[iv (k0:Int),iv (n0:Int),.string t,iv 0]
abbrev zfv(h:Heap)(k0 n0:Nat)(t:BA):Heap:=pt (al h 199 vh) h.nx 199 [iv (k0:Int),iv (n0:Int),.string t,iv 0]
variable (h h2:Heap) (s:BA) (e:Int) (t:BA) (at_ kk b k k0 n0 a0_ len_ n:Nat)
theorem zo1(kk n:Nat)(_h1:at_ < s.data.toList.length)(_h2:s.data.toList.length < 4611686018427387904)(_h3:len_≤4611686018427387904)(a0:decide ((at_:Int) < s.data.toList.length)=true)(a1:Pu n 196 [.int .u8 (bAt s (at_:Int):Int)] (iv (kk:Int)) h)(a2:((kk:Int)==1)=false)(a3:Pu n 197 (zfx s at_) (.tuple #[.agg #[iv (k0:Int),iv (n0:Int),.string t,iv 0],iv (len_:Int)]) h)(a4:((len_:Int)==0)=false)(a5:zu En (al (pt (zfv h k0 n0 t) h.nx 199 (vK k0 n0 t at_)) 199 (vK k0 n0 t at_)) #[155,155] (.slice none 0 0) (sv (h.nx+1) 0 1 1)=some (sv (h.nx+2) 0 1 1,h2)):Bd n 43 [1,1,1,0,1,0,0] Tryz.f175 (zaD s at_) h .normal [(0,.string s),(5,sv (h.nx+2) 0 1 1),(6,iv ((at_:Int)+(len_:Int)))] h2:=
 bdF (kZ h) [yT a0,yI 9 s (at_:Int),yP a1,yF a2,cL 9 s (at_:Int),yP a3,aS 199 vh,.w 0 199 0 (zfw k0 n0 t),yF a4,.w 0 3 3 (iv (at_:Int)),.g 0 199 0 4,aS 199 (vK k0 n0 t at_),yC a5 (kZ h2),yW ((at_:Int)+(len_:Int)),.z 0]
theorem zrQ(_h1:at_ < s.data.toList.length)(_h2:s.data.toList.length < 4611686018427387904)(a0:decide ((at_:Int) < s.data.toList.length)=true)(a1:Pu n 196 [.int .u8 (bAt s (at_:Int):Int)] (iv (kk:Int)) h)(a2:((kk:Int)==1)=true):Bd n 43 [1,1,1,0,1,0,0] Tryz.f175 (zaD s at_) h .normal [(0,.string s),(5,.slice none 0 0),(6,iv ((at_:Int)+1))] h:=
 bdF (kZ h) [yT a0,yI 9 s (at_:Int),yP a1,yT a2,yW ((at_:Int)+1),.z 0]
theorem zo7(_h1:at_ < s.data.toList.length)(_h2:s.data.toList.length < 4611686018427387904)(a0:decide ((at_:Int) < s.data.toList.length)=true)(a1:Pu n 196 [.int .u8 (bAt s (at_:Int):Int)] (iv (kk:Int)) h)(a2:((kk:Int)==1)=false)(a3:Pu n 197 (zfx s at_) (.tuple #[.agg #[iv (k0:Int),iv (n0:Int),.string t,iv 0],iv 0]) h):Bd n 43 [1,1,1,0,1,0,0] Tryz.f175 (zaD s at_) h .ret (zfy at_) (zfv h k0 n0 t):=
 bdF (kZ h) [yT a0,yI 9 s (at_:Int),yP a1,yF a2,cL 9 s (at_:Int),yP a3,aS 199 vh,.w 0 199 0 (zfw k0 n0 t),bT,.z 0]
theorem zo5(a0:decide ((at_:Int) < s.data.toList.length)=false):Bd n 43 [1,1,1,0,1,0,0] Tryz.f175 (zaD s at_) h (.exit 0) [(5,.slice none 0 0)] h:=
 bdF (kZ h) [yF a0,.z 0]
theorem zo0(b k kk n:Nat)(_h1:at_ < s.data.toList.length)(_h2:s.data.toList.length < 4611686018427387904)(_h3:len_≤4611686018427387904)(a0:decide ((at_:Int) < s.data.toList.length)=true)(a1:Pu n 196 [.int .u8 (bAt s (at_:Int):Int)] (iv (kk:Int)) h)(a2:((kk:Int)==1)=false)(a3:Pu n 197 (zfx s at_) (.tuple #[.agg #[iv (k0:Int),iv (n0:Int),.string t,iv 0],iv (len_:Int)]) h)(a4:((len_:Int)==0)=false)(a5:zu En (al (pt (zfv h k0 n0 t) h.nx 199 (vK k0 n0 t at_)) 199 (vK k0 n0 t at_)) #[155,155] (sv b 0 k k) (sv (h.nx+1) 0 1 1)=some (sv (h.nx+2) 0 (k+1) (k+1),h2)):Bd n 43 [1,1,1,0,1,0,0] Tryz.f175 (zaC s b k at_) h .normal [(0,.string s),(5,sv (h.nx+2) 0 (k+1) (k+1)),(6,iv ((at_:Int)+(len_:Int)))] h2:=
 bdF (kZ h) [yT a0,yI 9 s (at_:Int),yP a1,yF a2,cL 9 s (at_:Int),yP a3,aS 199 vh,.w 0 199 0 (zfw k0 n0 t),yF a4,.w 0 3 3 (iv (at_:Int)),.g 0 199 0 4,aS 199 (vK k0 n0 t at_),yC a5 (kZ h2),yW ((at_:Int)+(len_:Int)),.z 0]
theorem zrP(_h1:at_ < s.data.toList.length)(_h2:s.data.toList.length < 4611686018427387904)(a0:decide ((at_:Int) < s.data.toList.length)=true)(a1:Pu n 196 [.int .u8 (bAt s (at_:Int):Int)] (iv (kk:Int)) h)(a2:((kk:Int)==1)=true):Bd n 43 [1,1,1,0,1,0,0] Tryz.f175 (zaC s b k at_) h .normal [(0,.string s),(5,sv b 0 k k),(6,iv ((at_:Int)+1))] h:=
 bdF (kZ h) [yT a0,yI 9 s (at_:Int),yP a1,yT a2,yW ((at_:Int)+1),.z 0]
theorem zo6(_h1:at_ < s.data.toList.length)(_h2:s.data.toList.length < 4611686018427387904)(a0:decide ((at_:Int) < s.data.toList.length)=true)(a1:Pu n 196 [.int .u8 (bAt s (at_:Int):Int)] (iv (kk:Int)) h)(a2:((kk:Int)==1)=false)(a3:Pu n 197 (zfx s at_) (.tuple #[.agg #[iv (k0:Int),iv (n0:Int),.string t,iv 0],iv 0]) h):Bd n 43 [1,1,1,0,1,0,0] Tryz.f175 (zaC s b k at_) h .ret (zfy at_) (zfv h k0 n0 t):=
 bdF (kZ h) [yT a0,yI 9 s (at_:Int),yP a1,yF a2,cL 9 s (at_:Int),yP a3,aS 199 vh,.w 0 199 0 (zfw k0 n0 t),bT,.z 0]
theorem zo4(a0:decide ((at_:Int) < s.data.toList.length)=false):Bd n 43 [1,1,1,0,1,0,0] Tryz.f175 (zaC s b k at_) h (.exit 0) [(5,sv b 0 k k)] h:=
 bdF (kZ h) [yF a0,.z 0]
theorem zo3(a0:decide ((s.data.toList.length:Int)>300)=true):Fn n 175 [.string s] h (.tuple #[.slice none 0 0,iv 0,iv 2]) h.fh:=
 fnT (kZ h) [yT a0,.z 0]
theorem zrS(a0:decide ((s.data.toList.length:Int)>300)=false)(a1:Lf n 43 [1,1,1,0,1,0,0] Tryz.f175 (zcx s) h.fh (.exit 0) [(5,.slice none 0 0)] h2):Fn n 175 [.string s] h (.tuple #[.slice none 0 0,iv 0,iv 0]) h2:=
 fnT (kZ h) [yF a0,yS a1 (kZ h2),.z 0]
theorem zrR(a0:decide ((s.data.toList.length:Int)>300)=false)(a1:Lf n 43 [1,1,1,0,1,0,0] Tryz.f175 (zcx s) h.fh (.exit 0) [(5,sv b 0 k k)] h2):Fn n 175 [.string s] h (.tuple #[sv b 0 k k,iv 0,iv 0]) h2:=
 fnT (kZ h) [yF a0,yS a1 (kZ h2),.z 0]
theorem zrT(a0:decide ((s.data.toList.length:Int)>300)=false)(a1:Lf n 43 [1,1,1,0,1,0,0] Tryz.f175 (zcx s) h.fh .ret [(2,.slice none 0 0),(3,iv e),(4,iv 12)] h2):Fn n 175 [.string s] h (.tuple #[.slice none 0 0,iv e,iv 12]) h2:=
 fnT (kZ h) [yF a0,yS a1 (kZ h2),.z 0]
theorem zoT(_h1:at_ < s.data.toList.length)(_h2:s.data.toList.length < 4611686018427387904)(_h3:len_≤4611686018427387904)(a0:decide ((at_:Int) < s.data.toList.length)=true)(a1:(((bAt s (at_:Int):Int):Int)==32)=false)(a2:Pu n 109 [.string s,iv (at_:Int)] (.tuple #[.agg #[iv (k0:Int),iv (n0:Int),.string t,iv (at_:Int)],iv (len_:Int)]) h)(a3:((len_:Int)==0)=false)(a4:zu En (al (pt (al h 199 vh) h.nx 199 (vK k0 n0 t at_)) 199 (vK k0 n0 t at_)) #[155,155] (.slice none 0 0) (sv (h.nx+1) 0 1 1)=some (sv (h.nx+2) 0 1 1,h2)):Bd n 39 [1,1,1,0,1,0,0] Tryz.f77 (zaD s at_) h .normal [(0,.string s),(5,sv (h.nx+2) 0 1 1),(6,iv ((at_:Int)+(len_:Int)))] h2:=
 bdF (kZ h) [yT a0,yI 9 s (at_:Int),yF a1,yP a2,aS 199 vh,.w 0 199 0 (.agg #[iv (k0:Int),iv (n0:Int),.string t,iv (at_:Int)]),yF a3,.g 0 199 0 4,aS 199 (vK k0 n0 t at_),yC a4 (kZ h2),yW ((at_:Int)+(len_:Int)),.z 0]
theorem zrL(_h1:at_ < s.data.toList.length)(_h2:s.data.toList.length < 4611686018427387904)(a0:decide ((at_:Int) < s.data.toList.length)=true)(a1:(((bAt s (at_:Int):Int):Int)==32)=true):Bd n 39 [1,1,1,0,1,0,0] Tryz.f77 (zaD s at_) h .normal [(0,.string s),(5,.slice none 0 0),(6,iv ((at_:Int)+1))] h:=
 bdF (kZ h) [yT a0,yI 9 s (at_:Int),yT a1,yW ((at_:Int)+1),.z 0]
theorem zoZ(_h1:at_ < s.data.toList.length)(_h2:s.data.toList.length < 4611686018427387904)(a0:decide ((at_:Int) < s.data.toList.length)=true)(a1:(((bAt s (at_:Int):Int):Int)==32)=false)(a2:Pu n 109 [.string s,iv (at_:Int)] (.tuple #[.agg #[iv (k0:Int),iv (n0:Int),.string t,iv (a0_:Int)],iv 0]) h):Bd n 39 [1,1,1,0,1,0,0] Tryz.f77 (zaD s at_) h .ret (zfy at_) (pt (al h 199 vh) h.nx 199 [iv (k0:Int),iv (n0:Int),.string t,iv (a0_:Int)]):=
 bdF (kZ h) [yT a0,yI 9 s (at_:Int),yF a1,yP a2,aS 199 vh,.w 0 199 0 (.agg #[iv (k0:Int),iv (n0:Int),.string t,iv (a0_:Int)]),bT,.z 0]
theorem zoX(a0:decide ((at_:Int) < s.data.toList.length)=false):Bd n 39 [1,1,1,0,1,0,0] Tryz.f77 (zaD s at_) h (.exit 0) [(5,.slice none 0 0)] h:=
 bdF (kZ h) [yF a0,.z 0]
theorem zoS(b k n:Nat)(_h1:at_ < s.data.toList.length)(_h2:s.data.toList.length < 4611686018427387904)(_h3:len_≤4611686018427387904)(a0:decide ((at_:Int) < s.data.toList.length)=true)(a1:(((bAt s (at_:Int):Int):Int)==32)=false)(a2:Pu n 109 [.string s,iv (at_:Int)] (.tuple #[.agg #[iv (k0:Int),iv (n0:Int),.string t,iv (at_:Int)],iv (len_:Int)]) h)(a3:((len_:Int)==0)=false)(a4:zu En (al (pt (al h 199 vh) h.nx 199 (vK k0 n0 t at_)) 199 (vK k0 n0 t at_)) #[155,155] (sv b 0 k k) (sv (h.nx+1) 0 1 1)=some (sv (h.nx+2) 0 (k+1) (k+1),h2)):Bd n 39 [1,1,1,0,1,0,0] Tryz.f77 (zaC s b k at_) h .normal [(0,.string s),(5,sv (h.nx+2) 0 (k+1) (k+1)),(6,iv ((at_:Int)+(len_:Int)))] h2:=
 bdF (kZ h) [yT a0,yI 9 s (at_:Int),yF a1,yP a2,aS 199 vh,.w 0 199 0 (.agg #[iv (k0:Int),iv (n0:Int),.string t,iv (at_:Int)]),yF a3,.g 0 199 0 4,aS 199 (vK k0 n0 t at_),yC a4 (kZ h2),yW ((at_:Int)+(len_:Int)),.z 0]
theorem zrK(_h1:at_ < s.data.toList.length)(_h2:s.data.toList.length < 4611686018427387904)(a0:decide ((at_:Int) < s.data.toList.length)=true)(a1:(((bAt s (at_:Int):Int):Int)==32)=true):Bd n 39 [1,1,1,0,1,0,0] Tryz.f77 (zaC s b k at_) h .normal [(0,.string s),(5,sv b 0 k k),(6,iv ((at_:Int)+1))] h:=
 bdF (kZ h) [yT a0,yI 9 s (at_:Int),yT a1,yW ((at_:Int)+1),.z 0]
theorem zoY(_h1:at_ < s.data.toList.length)(_h2:s.data.toList.length < 4611686018427387904)(a0:decide ((at_:Int) < s.data.toList.length)=true)(a1:(((bAt s (at_:Int):Int):Int)==32)=false)(a2:Pu n 109 [.string s,iv (at_:Int)] (.tuple #[.agg #[iv (k0:Int),iv (n0:Int),.string t,iv (a0_:Int)],iv 0]) h):Bd n 39 [1,1,1,0,1,0,0] Tryz.f77 (zaC s b k at_) h .ret (zfy at_) (pt (al h 199 vh) h.nx 199 [iv (k0:Int),iv (n0:Int),.string t,iv (a0_:Int)]):=
 bdF (kZ h) [yT a0,yI 9 s (at_:Int),yF a1,yP a2,aS 199 vh,.w 0 199 0 (.agg #[iv (k0:Int),iv (n0:Int),.string t,iv (a0_:Int)]),bT,.z 0]
theorem zoW(a0:decide ((at_:Int) < s.data.toList.length)=false):Bd n 39 [1,1,1,0,1,0,0] Tryz.f77 (zaC s b k at_) h (.exit 0) [(5,sv b 0 k k)] h:=
 bdF (kZ h) [yF a0,.z 0]
theorem zoV(a0:decide ((s.data.toList.length:Int)>300)=true):Fn n 77 [.string s] h (.tuple #[.slice none 0 0,iv 0,iv 2]) h.fh:=
 fnT (kZ h) [yT a0,.z 0]
theorem zrN(a0:decide ((s.data.toList.length:Int)>300)=false)(a1:Lf n 39 [1,1,1,0,1,0,0] Tryz.f77 (zcx s) h.fh (.exit 0) [(5,.slice none 0 0)] h2):Fn n 77 [.string s] h (.tuple #[.slice none 0 0,iv 0,iv 0]) h2:=
 fnT (kZ h) [yF a0,yS a1 (kZ h2),.z 0]
theorem zrM(a0:decide ((s.data.toList.length:Int)>300)=false)(a1:Lf n 39 [1,1,1,0,1,0,0] Tryz.f77 (zcx s) h.fh (.exit 0) [(5,sv b 0 k k)] h2):Fn n 77 [.string s] h (.tuple #[sv b 0 k k,iv 0,iv 0]) h2:=
 fnT (kZ h) [yF a0,yS a1 (kZ h2),.z 0]
theorem zrO(a0:decide ((s.data.toList.length:Int)>300)=false)(a1:Lf n 39 [1,1,1,0,1,0,0] Tryz.f77 (zcx s) h.fh .ret [(2,.slice none 0 0),(3,iv e),(4,iv 12)] h2):Fn n 77 [.string s] h (.tuple #[.slice none 0 0,iv e,iv 12]) h2:=
 fnT (kZ h) [yF a0,yS a1 (kZ h2),.z 0]
end
structure Tk where
 k:Nat
 n:Nat
 t:Bsy
 at_:Nat
def Tk.cells(x:Tk):Vs:=[.int .i64 (x.k:Int),.int .i64 (x.n:Int),.string ⟨⟨x.t⟩⟩,.int .i64 (x.at_:Int)]
def tkC(l:List Tk):Vs:=l.flatMap Tk.cells
theorem zi0:∀ l:List Tk,(tkC l).length=l.length * 4:=by
 intro l
 induction l with
 |nil=>rfl
 |cons x l ih=>
  show(x.cells++tkC l).length=_
  rw[lA,ih,lC]
  show 4+l.length * 4=_
  omega
theorem zmW(l:List Tk)(x:Tk):tkC (l++[x])=tkC l++x.cells:=by
 unfold tkC
 rw[List.flatMap_append]
 simp
inductive LexR where
 |ok (l:List Tk)
 |bad (at_:Nat)
def qU(l:Bsy)(at_:Nat):Tk:=⟨(zD l).1,(zD l).2.1,(zD l).2.2.1,at_⟩
def jq:Nat→Bsy→Nat→List Tk→LexR
 |0,_,_,acc=>.ok acc
 |_+1,[],_,acc=>.ok acc
 |n+1,c::r,at_,acc=>
  if kd c=1 then jq n r (at_+1) acc
  else if(zD (c::r)).2.2.2=0 then .bad at_
  else jq n ((c::r).drop (zD (c::r)).2.2.2) (at_+(zD (c::r)).2.2.2) (acc++[qU (c::r) at_])
def tsR(b:Nat):List Tk→OA
 |[]=>none
 |_::_=>some ⟨b,0,none⟩
def tsV(b:Nat)(l:List Tk):Value:=.slice (tsR b l) l.length l.length
theorem zkM:SlT En 155 199 4 40:=⟨by kernel_rfl,by kernel_rfl,by kernel_rfl,⟨.agg #[.int .i64 0,.int .i64 0,.string ⟨#[]⟩,.int .i64 0],by kernel_rfl,rfl⟩,by decide⟩
theorem zaE:SlT En 70 72 10 112:=⟨by kernel_rfl,by kernel_rfl,by kernel_rfl,⟨.agg #[.int .i64 0,.int .i64 0,.int .i64 0,.string ⟨#[]⟩,.int .i64 0,.int .i64 0,.int .i64 0,.int .i64 0,.string ⟨#[]⟩,.slice none 0 0],by kernel_rfl,rfl⟩,by decide⟩
theorem Gl.up{m:Int}{k:Nat}{h g:Heap}(G:Gl m h)(u:Up k h g)(hk:6≤k):Gl m g:=
 ⟨nT G.nx u.nx,fun b hb=>(u.get b (by omega)).trans (G.get b hb)⟩
def uy(h:Heap)(k0 b:Nat)(l:List Tk):Prop:=l=[]∨(k0≤b∧h.get b=some (.row 199 (tkC l) 4 false))
theorem uy.lt{h:Heap}{k0 b:Nat}{l:List Tk}(t:uy h k0 b l):l=[]∨b < h.nx:=t.imp id fun h=>za h.2
theorem zdm:∀ (N:Nat) (l:Bsy) (at_:Nat) (acc ts:List Tk),jq N l at_ acc= .ok ts→ts.length≤acc.length+l.length:=by
 intro N
 induction N with
 |zero=>intro l at_ acc ts h;simp only[jq,LexR.ok.injEq] at h;subst h;omega
 |succ N ih=>
  intro l at_ acc ts h
  cases l with
  |nil=>simp only[jq,LexR.ok.injEq] at h;subst h;omega
  |cons c r=>
   simp only[jq] at h
   split at h
   ·have:=ih _ _ _ _ h;rw[lC];omega
   ·split at h
    ·cases h
    ·have:=ih _ _ _ _ h
     rw[lA,List.length_drop,List.length_singleton] at this
     rw[lC] at this ⊢
     omega
theorem ze6{h:Heap}{k0 b:Nat}{acc:List Tk}(A:uy h k0 b acc)(x:Tk)(g:Heap)(hu:Up k0 h g)(hnx:g.nx=h.nx+1)(hbg:acc≠[]→g.get b=h.get b)(hk:k0≤h.nx)(hl:acc.length≤4000):
  ∃ h2,zu En (g.alloc (.row 199 x.cells 0 false)) #[155,155] (tsV b acc) (.slice (some ⟨g.nx,0,none⟩) 1 1)=some (tsV (h.nx+1+1) (acc++[x]),h2)∧uy h2 k0 (h.nx+1+1) (acc++[x])∧Up k0 h h2:=by
 have ua:Up k0 g (g.alloc (.row 199 x.cells 0 false)):=Up.alloc _ _ (by omega)
 have hn2:(g.alloc (.row 199 x.cells 0 false)).nx=h.nx+1+1:=by rw[zt,hnx]
 have hgn:(g.alloc (.row 199 x.cells 0 false)).get g.nx=some (.row 199 x.cells 0 false):=zb _ _
 cases acc with
 |nil=>
  have ap:=vv (c:=1) zkM hgn (o:=0) (n:=1) (xs:=x.cells) rfl rfl (by decide) (by decide)
  refine⟨(g.alloc (.row 199 x.cells 0 false)).alloc (.row 199 x.cells 4 false),ap.trans ?_,.inr ⟨by omega,?_⟩,(hu.trans ua).trans (Up.alloc _ _ (by omega))⟩
  ·rw[hn2];rfl
  ·have:=zb (g.alloc (.row 199 x.cells 0 false)) (.row 199 x.cells 4 false)
   rw[hn2] at this
   rw[this]
   show _=some (AObj.row 199 (tkC [x]) 4 false)
   have:tkC [x]=x.cells:=by simp[tkC]
   rw[this]
 |cons y l=>
  rcases A with A|⟨A1,A2⟩
  ·cases A
  have hb:b < h.nx:=za A2
  have A3:(g.alloc (.row 199 x.cells 0 false)).get b=some (.row 199 (tkC (y::l)) 4 false):=by
   rw[zm _ _ (by omega),hbg (by simp)];exact A2
  have ap:=qK (c:=1) (l:=(y::l).length) zkM A3 (by rw[zi0]) hgn (o:=0) (n:=1) (xs:=x.cells) rfl rfl rfl (by decide) (by omega)
  have hkn:((g.alloc (.row 199 x.cells 0 false)).kill b).nx=h.nx+1+1:=by rw[jb,hn2]
  refine⟨((g.alloc (.row 199 x.cells 0 false)).kill b).alloc (.row 199 (tkC (y::l)++x.cells) 4 false),ap.trans ?_,.inr ⟨by omega,?_⟩,((hu.trans ua).trans (Up.kill _ A1)).trans (Up.alloc _ _ (by omega))⟩
  ·rw[hn2]
   show _=some (Value.slice (some ⟨h.nx+1+1,0,none⟩) ((y::l)++[x]).length ((y::l)++[x]).length,_)
   rw[lA,List.length_singleton]
  ·have:=zb ((g.alloc (.row 199 x.cells 0 false)).kill b) (.row 199 (tkC (y::l)++x.cells) 4 false)
   rw[hkn] at this
   rw[this,zmW]
theorem kd1(b:UInt8):(((kd b:Int):Int)==1)=decide (kd b=1):=by
 have:=zco (kd b) 1
 rw[show((1:Nat):Int)=1 from rfl] at this
 rw[this];simp[Bool.beq_eq_decide_eq]
theorem zgE(c:UInt8)(r:Bsy):(zD (c::r)).2.2.2≤(c::r).length:=by
 unfold zD
 simp only
 by_cases c2:kd c=2
 ·rw[if_pos c2]
  cases uL ((c::r).takeWhile isD) with
  |none=>simp
  |some v=>exact(List.takeWhile_prefix _).length_le
 rw[if_neg c2]
 by_cases c4:kd c=4
 ·rw[if_pos c4]
  cases hv:wW r [] 1 with
  |none=>simp
  |some p=>
   obtain⟨a,e⟩:=p
   have:=zaT r.length r [] 1 a e (nL_ _) hv
   simp only[lC];omega
 rw[if_neg c4]
 by_cases c3:kd c=3
 ·rw[if_pos c3];exact(List.takeWhile_prefix _).length_le
 rw[if_neg c3]
 by_cases c5:kd c=5
 ·rw[if_pos c5]
  show jZ (c::r)≤_
  unfold jZ
  split
  next h=>
   rcases h with h|h|h <;>(have:=zbf h;omega)
  ·rw[lC];omega
 ·rw[if_neg c5];simp
theorem zw{a b:Nat}(h:a < b):decide ((a:Int) < (b:Int))=true:=dT (by omega)
theorem zE{a b:Nat}(h:¬ a < b):decide ((a:Int) < (b:Int))=false:=dF (by omega)
theorem wj{a b:Nat}(h:b < a):decide ((a:Int)>(b:Int))=true:=dT (by omega)
theorem zR{a b:Nat}(h:¬ b < a):decide ((a:Int)>(b:Int))=false:=dF (by omega)
theorem zl0{a b:Nat}(h:a=b):((a:Int)==(b:Int))=true:=by subst h;simp
theorem zcK{a b:Nat}(h:a≠b):((a:Int)==(b:Int))=false:=by rw[zco];simpa using h
theorem zhu(A:Heap)(p b:Nat)(o o':AObj)(hp:p < A.nx)(hb:b≠p):((A.put p o).put p o').get b=A.get b:=by
 rw[zf _ _ _ _ (by rw[yh];exact hp) hb,zf _ _ _ _ hp hb]
section
variable {m:Int} (s:BA) (n:Nat) (hn:5≤n) (hs:s.data.toList.length≤300) (k0:Nat) (hk0:6≤k0)
include hn hs hk0
theorem zo2:∀ (N:Nat) (l:Bsy) (at_:Nat) (acc:List Tk) (h:Heap) (b:Nat),l.length < N→s.data.toList.drop at_=l→uy h k0 b acc→Gl m h→k0≤h.nx→acc.length+l.length≤300→
  ∃ b' H' R,R≤l.length+1∧Up k0 h H'∧match jq N l at_ acc with
   | .ok ts=>uy H' k0 b' ts∧Loops En (RD n) 43 18446744073709551616 (sub [1,1,1,0,1,0,0] (zp Tryz.f175)) [(0,.string s),(5,tsV b acc),(6,.int .i64 (at_:Int))] h (.exit 0) [(5,tsV b' ts)] H' R
   | .bad e=>Loops En (RD n) 43 18446744073709551616 (sub [1,1,1,0,1,0,0] (zp Tryz.f175)) [(0,.string s),(5,tsV b acc),(6,.int .i64 (at_:Int))] h .ret [(2,.slice none 0 0),(3,.int .i64 (e:Int)),(4,.int .i64 12)] H' R:=by
 intro N
 induction N with
 |zero=>intro l at_ acc h b hN;omega
 |succ N ih=>
  intro l at_ acc h b hN hl hA hG hk hb
  have hs2:s.data.toList.length < 4611686018427387904:=by omega
  cases l with
  |nil=>
   have hd:=zE (a:=at_) (b:=s.data.toList.length) (by have:=ji hl;omega)
   refine⟨b,h,1,by omega,Up.refl _ _,?_⟩
   simp only[jq]
   refine⟨hA,.out ?_⟩
   cases acc with
   |nil=>exact zo5 h s at_ n hd
   |cons x acc=>exact zo4 h s at_ b (x::acc).length n hd
  |cons c r=>
   have hat:=jt hl
   have hd:=zw hat
   have hbt:bAt s (at_:Int)=c.toNat:=wD s at_ c r hl
   have hkd:=zd2 c h n (by omega)
   rw[← hbt] at hkd
   rw[lC] at hN hb
   by_cases c1:kd c=1
   ·obtain⟨b',H',R,hR,hU,hM⟩:=ih r (at_+1) acc h b (by omega) (wN hl) hA hG hk (by omega)
    refine⟨b',H',R+1,by rw[lC];omega,hU,?_⟩
    have hb:wC En (RD n) 43 18446744073709551616 (sub [1,1,1,0,1,0,0] (zp Tryz.f175)) [(0,.string s),(5,tsV b acc),(6,.int .i64 (at_:Int))] h .normal [(0,.string s),(5,tsV b acc),(6,.int .i64 ((at_+1:Nat):Int))] h:=by
     cases acc with
     |nil=>exact zrQ h s at_ (kd c) n hat hs2 hd hkd (by rw[kd1];simpa using c1)
     |cons x acc=>exact zrP h s at_ (kd c) b (x::acc).length n hat hs2 hd hkd (by rw[kd1];simpa using c1)
    simp only[jq,if_pos c1]
    split at hM
    next ts e=>exact⟨hM.1,.on hb hM.2⟩
    next e1 e=>exact .on hb hM
   ·have hc1:(((kd c:Int):Int)==1)=false:=by rw[kd1];simpa using c1
    have hcut:(zv s (at_:Int) s.data.toList.length).data.toList=c::r:=by
     show((s.data.toList.drop at_).take (s.data.toList.length - at_))=_
     rw[List.take_of_length_le (by rw[List.length_drop];omega),hl]
    have hone:=zqP (zv s (at_:Int) s.data.toList.length) h n hn hG (by rw[hcut,lC];omega) (by rw[hcut];rw[← hl,List.length_drop];omega)
    rw[hcut] at hone
    have hlen:=zgE c r
    simp only[jq,if_neg c1]
    by_cases c0:(zD (c::r)).2.2.2=0
    ·rw[if_pos c0]
     rw[c0] at hone
     refine⟨b,?_,1,by omega,?_,?_⟩
     ·exact(h.alloc (.row 199 [.int .i64 0,.int .i64 0,.string ⟨#[]⟩,.int .i64 0] 0 false)).put h.nx (.row 199 [.int .i64 ((zD (c::r)).1:Int),.int .i64 ((zD (c::r)).2.1:Int),.string ⟨⟨(zD (c::r)).2.2.1⟩⟩,.int .i64 0] 0 false)
     ·exact(Up.alloc _ _ hk).trans (Up.put _ _ hk (by rw[zt];omega))
     ·simp only
      cases acc with
      |nil=>exact .ret (zo7 h s ⟨⟨(zD (c::r)).2.2.1⟩⟩ at_ (kd c) (zD (c::r)).1 (zD (c::r)).2.1 n hat hs2 hd hkd hc1 hone)
      |cons x acc=>exact .ret (zo6 h s ⟨⟨(zD (c::r)).2.2.1⟩⟩ at_ (kd c) b (x::acc).length (zD (c::r)).1 (zD (c::r)).2.1 n hat hs2 hd hkd hc1 hone)
    ·rw[if_neg c0]
     have hne0:((((zD (c::r)).2.2.2:Nat):Int)==0)=false:=zcK (b:=0) c0
     have hc2:h.nx < (h.alloc (.row 199 [.int .i64 0,.int .i64 0,.string ⟨#[]⟩,.int .i64 0] 0 false)).nx:=by rw[zt];omega
     generalize hg:(((h.alloc (.row 199 [.int .i64 0,.int .i64 0,.string ⟨#[]⟩,.int .i64 0] 0 false)).put h.nx (.row 199 [.int .i64 ((zD (c::r)).1:Int),.int .i64 ((zD (c::r)).2.1:Int),.string ⟨⟨(zD (c::r)).2.2.1⟩⟩,.int .i64 0] 0 false)).put h.nx (.row 199 (qU (c::r) at_).cells 0 false))=g
     have hgn:g.nx=h.nx+1:=by rw[← hg];rfl
     have hgu:Up k0 h g:=by
      rw[← hg]
      exact((Up.alloc _ _ hk).trans (Up.put _ _ hk hc2)).trans (Up.put _ _ hk hc2)
     have hgb:acc≠[]→g.get b=h.get b:=by
      intro ha
      have hbl:b < h.nx:=(hA.lt).resolve_left ha
      rw[← hg]
      exact(zhu _ _ _ _ _ hc2 (by omega)).trans (zm _ _ hbl)
     obtain⟨h2,hap,hA2,hU2⟩:=ze6 hA (qU (c::r) at_) g hgu hgn hgb hk (by omega)
     have hb:wC En (RD n) 43 18446744073709551616 (sub [1,1,1,0,1,0,0] (zp Tryz.f175)) [(0,.string s),(5,tsV b acc),(6,.int .i64 (at_:Int))] h .normal [(0,.string s),(5,tsV (h.nx+1+1) (acc++[qU (c::r) at_])),(6,.int .i64 ((at_+(zD (c::r)).2.2.2:Nat):Int))] h2:=by
      subst hg
      rw[Int.natCast_add]
      cases acc with
      |nil=>exact zo1 h h2 s ⟨⟨(zD (c::r)).2.2.1⟩⟩ at_ (zD (c::r)).1 (zD (c::r)).2.1 (zD (c::r)).2.2.2 (kd c) n hat hs2 (by rw[lC] at hlen;omega) hd hkd hc1 hone hne0 hap
      |cons x acc=>
       have:tsV (h.nx+1+1) ((x::acc)++[qU (c::r) at_])= .slice (some ⟨h.nx+1+1,0,none⟩) ((x::acc).length+1) ((x::acc).length+1):=by
        show Value.slice _ ((x::acc)++[qU (c::r) at_]).length ((x::acc)++[qU (c::r) at_]).length=_
        rw[lA,List.length_singleton]
        rfl
       rw[this] at hap ⊢
       exact zo0 h h2 s ⟨⟨(zD (c::r)).2.2.1⟩⟩ at_ (zD (c::r)).1 (zD (c::r)).2.1 (zD (c::r)).2.2.2 b (x::acc).length (kd c) n hat hs2 (by rw[lC] at hlen;omega) hd hkd hc1 hone hne0 hap
     have hdl:((c::r).drop (zD (c::r)).2.2.2).length=r.length+1 - (zD (c::r)).2.2.2:=by rw[List.length_drop,lC]
     rw[lC] at hlen
     obtain⟨b',H',R,hR,hU,hM⟩:=ih ((c::r).drop (zD (c::r)).2.2.2) (at_+(zD (c::r)).2.2.2) (acc++[qU (c::r) at_]) h2 (h.nx+1+1) (by omega) (by rw[← List.drop_drop,hl]) hA2 (hG.up hU2 hk0) (nT hk hU2.nx) (by rw[lA,List.length_singleton];omega)
     refine⟨b',H',R+1,by rw[lC];omega,hU2.trans hU,?_⟩
     split at hM
     next ts e=>exact⟨hM.1,.on hb hM.2⟩
     next e1 e=>exact .on hb hM
end
def zf4(s:BA)(h:Heap)(v:Value)(h':Heap):Prop:=
 Up h.nx h h'∧
 if 300 < s.data.toList.length then v= .tuple #[.slice none 0 0,.int .i64 0,.int .i64 2]
 else match jq (s.data.toList.length+1) s.data.toList 0 [] with
  | .bad e=>v= .tuple #[.slice none 0 0,.int .i64 (e:Int),.int .i64 12]
  | .ok ts=>∃ b,uy h' h.nx b ts∧v= .tuple #[tsV b ts,.int .i64 0,.int .i64 0]
theorem uy.finish{h g:Heap}{b:Nat}{l:List Tk}{x y:Value}(t:uy g h.nx b l):uy (PanE.zy h (.tuple #[tsV b l,x,y]) g).2 h.nx b l:=by
 cases l with
 |nil=>exact .inl rfl
 |cons z l=>
  rcases t with t|⟨t1,t2⟩
  ·cases t
  have:zM h.nx 5 (.tuple #[tsV b (z::l),x,y])=false:=by
   have:Nat.blt b h.nx=false:=by
    cases e:Nat.blt b h.nx with
    |false=>rfl
    |true=>rw[Nat.blt_eq] at e;omega
   simp[zM,tsV,tsR,this]
  rw[zah this]
  exact .inr ⟨t1,t2⟩
theorem Up.fh(h:Heap):Up h.nx (Heap.fh h) (Heap.fh h):=Up.refl _ _
theorem fin{x:Option (Value×Heap)}{h g:Heap}{v:Value}(e:x=some (zy h v g)):x=some (v,(zy h v g).2):=by
 rw[e];congr 1;exact Prod.ext zj0 rfl
theorem zoR{m:Int}(s:BA)(h:Heap)(n:Nat)(hn:6≤n)(G:Gl m h):∃ v h',RD n 175 [.string s] h=some (v,h')∧zf4 s h v h':=by
 obtain⟨n,rfl⟩:=zs_ n
 by_cases hl:300 < s.data.toList.length
 ·refine⟨_,_,fin (zo3 h s n (wj hl)),?_⟩
  exact⟨(Up.fh h).finish (nL_ _),by rw[if_pos hl]⟩
 ·have hlt:s.data.toList.length < s.data.toList.length+1:=by omega
  obtain⟨b',H',R,hR,hU,hM⟩:=zo2 s n (by omega) (by omega) h.nx (by have:=G.nx;omega) (s.data.toList.length+1) s.data.toList 0 [] (Heap.fh h) 0 hlt (by simp) (.inl rfl) G.fh (nL_ _) (by simp only[lN];omega)
  have hgt:=zR (a:=s.data.toList.length) (b:=300) hl
  simp only[zf4,if_neg hl]
  split at hM
  next ts e=>
   obtain⟨hA,hL⟩:=hM
   rw[e]
   cases ts with
   |nil=>
    refine⟨_,_,fin (zrS h H' s n hgt (hL.fact2 (by omega) (by kernel_rfl))),?_,b',.inl rfl,?_⟩
    ·exact hU.finish (nL_ _)
    ·rfl
   |cons x ts=>
    refine⟨_,_,fin (zrR h H' s b' (x::ts).length n hgt (hL.fact2 (by omega) (by kernel_rfl))),?_,b',?_,?_⟩
    ·exact hU.finish (nL_ _)
    ·exact uy.finish hA
    ·rfl
  next e1 e=>
   rw[e]
   refine⟨_,_,fin (zrT h H' s e1 n hgt (hM.fact2 (by omega) (by kernel_rfl))),?_,?_⟩
   ·exact hU.finish (nL_ _)
   ·rfl
theorem b32(c:UInt8):(((c.toNat:Int):Int)==32)=decide (kd c=1):=by
 have:=zco c.toNat 32
 rw[show((32:Nat):Int)=32 from rfl] at this
 rw[this]
 have:=(uO c).2.2.1
 by_cases h:c.toNat=32 <;>simp[h,this]
section
variable {m:Int} (s:BA) (n:Nat) (hn:5≤n) (hs:s.data.toList.length≤300) (k0:Nat) (hk0:6≤k0)
include hn hs hk0
theorem zoU:∀ (N:Nat) (l:Bsy) (at_:Nat) (acc:List Tk) (h:Heap) (b:Nat),l.length < N→s.data.toList.drop at_=l→uy h k0 b acc→Gl m h→k0≤h.nx→acc.length+l.length≤300→
  ∃ b' H' R,R≤l.length+1∧Up k0 h H'∧match jq N l at_ acc with
   | .ok ts=>uy H' k0 b' ts∧Loops En (RD n) 39 18446744073709551616 (sub [1,1,1,0,1,0,0] (zp Tryz.f77)) [(0,.string s),(5,tsV b acc),(6,.int .i64 (at_:Int))] h (.exit 0) [(5,tsV b' ts)] H' R
   | .bad e=>Loops En (RD n) 39 18446744073709551616 (sub [1,1,1,0,1,0,0] (zp Tryz.f77)) [(0,.string s),(5,tsV b acc),(6,.int .i64 (at_:Int))] h .ret [(2,.slice none 0 0),(3,.int .i64 (e:Int)),(4,.int .i64 12)] H' R:=by
 intro N
 induction N with
 |zero=>intro l at_ acc h b hN;omega
 |succ N ih=>
  intro l at_ acc h b hN hl hA hG hk hb
  have hs2:s.data.toList.length < 4611686018427387904:=by omega
  cases l with
  |nil=>
   have hd:=zE (a:=at_) (b:=s.data.toList.length) (by have:=ji hl;omega)
   refine⟨b,h,1,by omega,Up.refl _ _,?_⟩
   simp only[jq]
   refine⟨hA,.out ?_⟩
   cases acc with
   |nil=>exact zoX h s at_ n hd
   |cons x acc=>exact zoW h s at_ b (x::acc).length n hd
  |cons c r=>
   have hat:=jt hl
   have hd:=zw hat
   have hbt:bAt s (at_:Int)=c.toNat:=wD s at_ c r hl
   have hkd:=b32 c
   rw[← hbt] at hkd
   rw[lC] at hN hb
   by_cases c1:kd c=1
   ·obtain⟨b',H',R,hR,hU,hM⟩:=ih r (at_+1) acc h b (by omega) (wN hl) hA hG hk (by omega)
    refine⟨b',H',R+1,by rw[lC];omega,hU,?_⟩
    have hb:wC En (RD n) 39 18446744073709551616 (sub [1,1,1,0,1,0,0] (zp Tryz.f77)) [(0,.string s),(5,tsV b acc),(6,.int .i64 (at_:Int))] h .normal [(0,.string s),(5,tsV b acc),(6,.int .i64 ((at_+1:Nat):Int))] h:=by
     cases acc with
     |nil=>exact zrL h s at_ n hat hs2 hd (by rw[hkd];simpa using c1)
     |cons x acc=>exact zrK h s at_ b (x::acc).length n hat hs2 hd (by rw[hkd];simpa using c1)
    simp only[jq,if_pos c1]
    split at hM
    next ts e=>exact⟨hM.1,.on hb hM.2⟩
    next e1 e=>exact .on hb hM
   ·have hc1:(((bAt s (at_:Int):Int):Int)==32)=false:=by rw[hkd];simpa using c1
    have hone:=znV s at_ h n (by omega) (by omega) hat
    rw[hl] at hone
    unfold zjJ at hone
    have hlen:=zgE c r
    simp only[jq,if_neg c1]
    by_cases c0:(zD (c::r)).2.2.2=0
    ·rw[if_pos c0]
     rw[if_pos c0] at hone
     refine⟨b,?_,1,by omega,?_,?_⟩
     ·exact(h.alloc (.row 199 [.int .i64 0,.int .i64 0,.string ⟨#[]⟩,.int .i64 0] 0 false)).put h.nx (.row 199 [.int .i64 0,.int .i64 0,.string ⟨#[]⟩,.int .i64 0] 0 false)
     ·exact(Up.alloc _ _ hk).trans (Up.put _ _ hk (by rw[zt];omega))
     ·simp only
      cases acc with
      |nil=>exact .ret (zoZ h s ⟨#[]⟩ at_ 0 0 0 n hat hs2 hd hc1 hone)
      |cons x acc=>exact .ret (zoY h s ⟨#[]⟩ at_ b (x::acc).length 0 0 0 n hat hs2 hd hc1 hone)
    ·rw[if_neg c0]
     rw[if_neg c0] at hone
     have hne0:((((zD (c::r)).2.2.2:Nat):Int)==0)=false:=zcK (b:=0) c0
     have hc2:h.nx < (h.alloc (.row 199 [.int .i64 0,.int .i64 0,.string ⟨#[]⟩,.int .i64 0] 0 false)).nx:=by rw[zt];omega
     generalize hg:((h.alloc (.row 199 [.int .i64 0,.int .i64 0,.string ⟨#[]⟩,.int .i64 0] 0 false)).put h.nx (.row 199 (qU (c::r) at_).cells 0 false))=g
     have hgn:g.nx=h.nx+1:=by rw[← hg];rfl
     have hgu:Up k0 h g:=by
      rw[← hg]
      exact(Up.alloc _ _ hk).trans (Up.put _ _ hk hc2)
     have hgb:acc≠[]→g.get b=h.get b:=by
      intro ha
      have hbl:b < h.nx:=(hA.lt).resolve_left ha
      rw[← hg]
      exact(zf _ _ _ _ hc2 (by omega)).trans (zm _ _ hbl)
     obtain⟨h2,hap,hA2,hU2⟩:=ze6 hA (qU (c::r) at_) g hgu hgn hgb hk (by omega)
     have hb:wC En (RD n) 39 18446744073709551616 (sub [1,1,1,0,1,0,0] (zp Tryz.f77)) [(0,.string s),(5,tsV b acc),(6,.int .i64 (at_:Int))] h .normal [(0,.string s),(5,tsV (h.nx+1+1) (acc++[qU (c::r) at_])),(6,.int .i64 ((at_+(zD (c::r)).2.2.2:Nat):Int))] h2:=by
      subst hg
      rw[Int.natCast_add]
      cases acc with
      |nil=>exact zoT h h2 s ⟨⟨(zD (c::r)).2.2.1⟩⟩ at_ (zD (c::r)).1 (zD (c::r)).2.1 (zD (c::r)).2.2.2 n hat hs2 (by rw[lC] at hlen;omega) hd hc1 hone hne0 hap
      |cons x acc=>
       have:tsV (h.nx+1+1) ((x::acc)++[qU (c::r) at_])= .slice (some ⟨h.nx+1+1,0,none⟩) ((x::acc).length+1) ((x::acc).length+1):=by
        show Value.slice _ ((x::acc)++[qU (c::r) at_]).length ((x::acc)++[qU (c::r) at_]).length=_
        rw[lA,List.length_singleton]
        rfl
       rw[this] at hap ⊢
       exact zoS h h2 s ⟨⟨(zD (c::r)).2.2.1⟩⟩ at_ (zD (c::r)).1 (zD (c::r)).2.1 (zD (c::r)).2.2.2 b (x::acc).length n hat hs2 (by rw[lC] at hlen;omega) hd hc1 hone hne0 hap
     have hdl:((c::r).drop (zD (c::r)).2.2.2).length=r.length+1 - (zD (c::r)).2.2.2:=by rw[List.length_drop,lC]
     rw[lC] at hlen
     obtain⟨b',H',R,hR,hU,hM⟩:=ih ((c::r).drop (zD (c::r)).2.2.2) (at_+(zD (c::r)).2.2.2) (acc++[qU (c::r) at_]) h2 (h.nx+1+1) (by omega) (by rw[← List.drop_drop,hl]) hA2 (hG.up hU2 hk0) (nT hk hU2.nx) (by rw[lA,List.length_singleton];omega)
     refine⟨b',H',R+1,by rw[lC];omega,hU2.trans hU,?_⟩
     split at hM
     next ts e=>exact⟨hM.1,.on hb hM.2⟩
     next e1 e=>exact .on hb hM
end
theorem zoQ{m:Int}(s:BA)(h:Heap)(n:Nat)(hn:6≤n)(G:Gl m h):∃ v h',RD n 77 [.string s] h=some (v,h')∧zf4 s h v h':=by
 obtain⟨n,rfl⟩:=zs_ n
 by_cases hl:300 < s.data.toList.length
 ·refine⟨_,_,fin (zoV h s n (wj hl)),?_⟩
  exact⟨(Up.fh h).finish (nL_ _),by rw[if_pos hl]⟩
 ·have hlt:s.data.toList.length < s.data.toList.length+1:=by omega
  obtain⟨b',H',R,hR,hU,hM⟩:=zoU s n (by omega) (by omega) h.nx (by have:=G.nx;omega) (s.data.toList.length+1) s.data.toList 0 [] (Heap.fh h) 0 hlt (by simp) (.inl rfl) G.fh (nL_ _) (by simp only[lN];omega)
  have hgt:=zR (a:=s.data.toList.length) (b:=300) hl
  simp only[zf4,if_neg hl]
  split at hM
  next ts e=>
   obtain⟨hA,hL⟩:=hM
   rw[e]
   cases ts with
   |nil=>
    refine⟨_,_,fin (zrN h H' s n hgt (hL.fact2 (by omega) (by kernel_rfl))),?_,b',.inl rfl,?_⟩
    ·exact hU.finish (nL_ _)
    ·rfl
   |cons x ts=>
    refine⟨_,_,fin (zrM h H' s b' (x::ts).length n hgt (hL.fact2 (by omega) (by kernel_rfl))),?_,b',?_,?_⟩
    ·exact hU.finish (nL_ _)
    ·exact uy.finish hA
    ·rfl
  next e1 e=>
   rw[e]
   refine⟨_,_,fin (zrO h H' s e1 n hgt (hM.fact2 (by omega) (by kernel_rfl))),?_,?_⟩
   ·exact hU.finish (nL_ _)
   ·rfl
structure Hd where
 k:Int
 a:Int
 b:Int
 t:BA
 r0:Int
 c0:Int
 r1:Int
 c1:Int
 nm:BA
inductive Tr where
 |node (x:Hd) (l:List Tr)
abbrev eS:BA:=⟨#[]⟩
def ndL(x:Hd)(r:OA)(n:Nat):Vs:=[.int .i64 x.k,.int .i64 x.a,.int .i64 x.b,.string x.t,.int .i64 x.r0,.int .i64 x.c0,.int .i64 x.r1,.int .i64 x.c1,.string x.nm,.slice r n n]
def ndV(x:Hd)(r:OA)(n:Nat):Value:=.agg #[.int .i64 x.k,.int .i64 x.a,.int .i64 x.b,.string x.t,.int .i64 x.r0,.int .i64 x.c0,.int .i64 x.r1,.int .i64 x.c1,.string x.nm,.slice r n n]
def z72:Vs:=[.int .i64 0,.int .i64 0,.int .i64 0,.string ⟨#[]⟩,.int .i64 0,.int .i64 0,.int .i64 0,.int .i64 0,.string ⟨#[]⟩,.slice none 0 0]
def zj:Value:=.agg #[.int .i64 0,.int .i64 0,.int .i64 0,.string ⟨#[]⟩,.int .i64 0,.int .i64 0,.int .i64 0,.int .i64 0,.string ⟨#[]⟩,.slice none 0 0]
inductive Res where
 |ok (t:Tr) (k:Nat)
 |err (pos code:Nat)
abbrev PR:=Nat→Res
def zz(vk vn:Int)(s:Bsy):Hd:=⟨1,vk,vn,⟨⟨s⟩⟩,0,0,0,0,eS⟩
def zF(k r0 c0 r1 c1:Int):Hd:=⟨k,0,0,eS,r0,c0,r1,c1,eS⟩
def zg(k:Int)(s:Bsy):Hd:=⟨k,0,0,eS,0,0,0,0,⟨⟨s⟩⟩⟩
def vM(s:Bsy)(x y:Tr):Tr:=.node (zg 5 s) [x,y]
section
variable (ts:List Tk) (E:Nat) (A:Bsy→Option (Nat×Nat))
def place(k:Nat):Nat:=match ts[k]? with|some x=>x.at_|none=>E
def jO(k:Nat):Res:=.err (place ts E k) 13
def sg(ops:List (Bsy))(k:Nat):Option (Bsy):=
 match ts[k]? with
 |some x=>if x.k=4∧x.t∈ops then some x.t else none
 |none=>none
def jC(k:Nat):Bool:=(sg ts [[40]] (k+1)).isSome
def qv(ops:List (Bsy))(f:PR):Nat→Tr→Nat→Res
 |0,x,k=>.ok x k
 |i+1,x,k=>
  match sg ts ops k with
  |none=>.ok x k
  |some s=>
   match f (k+1) with
   | .err p c=>.err p c
   | .ok y k'=>qv ops f i (vM s x y) k'
def qM(ops:List (Bsy))(f:PR):PR:=fun k=>
 match f k with
 | .err p c=>.err p c
 | .ok x k1=>qv ts ops f 400 x k1
def vr(f:PR):PR:=fun k=>
 match f k with
 | .err p c=>.err p c
 | .ok x k1=>
  match sg ts [[61],[60,62],[60],[60,61],[62],[62,61]] k1 with
  |none=>.ok x k1
  |some s=>
   match f (k1+1) with
   | .err p c=>.err p c
   | .ok y k2=>.ok (vM s x y) k2
def ub(f g:PR):PR:=fun k=>
 match f k with
 | .err p c=>.err p c
 | .ok x k1=>
  match sg ts [[94]] k1 with
  |none=>.ok x k1
  |some s=>
   match g (k1+1) with
   | .err p c=>.err p c
   | .ok y k2=>.ok (vM s x y) k2
def unP(f g:PR):PR:=fun k=>
 match sg ts [[45]] k with
 |none=>f k
 |some _=>
  match g (k+1) with
  | .err p c=>.err p c
  | .ok y k2=>.ok (.node (zg 4 []) [y]) k2
def jQ(f:PR)(nm:Bsy):Nat→List Tr→Nat→Res
 |0,_,k=>jO ts E k
 |i+1,acc,k=>
  match f k with
  | .err p c=>.err p c
  | .ok t k1=>
   match sg ts [[44]] k1 with
   |some _=>jQ f nm i (acc++[t]) (k1+1)
   |none=>
    match sg ts [[41]] k1 with
    |some _=>.ok (.node (zg 6 nm) (acc++[t])) (k1+1)
    |none=>jO ts E k1
def yf(f:PR)(x:Tk):PR:=fun k=>
 if 8 < x.t.length then jO ts E k
 else match sg ts [[41]] (k+2) with
  |some _=>.ok (.node (zg 6 x.t) []) (k+2+1)
  |none=>jQ ts E f x.t 10 [] (k+2)
def jP(k:Nat):Option (Nat×Nat):=
 match ts[k]? with
 |some x=>if x.k=3∧jC ts k=false then A x.t else none
 |none=>none
def qS(f:PR)(x:Tk):PR:=fun k=>
 if jC ts k then yf ts E f x k
 else if x.t=[84,82,85,69] then .ok (.node (zz 1 1 []) []) (k+1)
 else if x.t=[70,65,76,83,69] then .ok (.node (zz 1 0 []) []) (k+1)
 else match A x.t with
  |none=>jO ts E k
  |some (r,c)=>
   match sg ts [[58]] (k+1) with
   |none=>.ok (.node (zF 2 r c 0 0) []) (k+1)
   |some _=>
    match jP ts A (k+1+1) with
    |none=>jO ts E (k+1+1)
    |some (r',c')=>.ok (.node (zF 3 ((min r r':Nat):Int) ((min c c':Nat):Int) ((max r r':Nat):Int) ((max c c':Nat):Int)) []) (k+1+1+1)
def qz(f:PR):PR:=fun k=>
 match ts[k]? with
 |none=>jO ts E k
 |some x=>
  if x.k=1 then .ok (.node (zz 2 x.n []) []) (k+1)
  else if x.k=2 then(if x.t.length≤200 then .ok (.node (zz 3 0 x.t) []) (k+1) else jO ts E k)
  else if x.k=3 then qS ts E A f x k
  else if x.k=4 then
   (if x.t=[40] then
    match f (k+1) with
    | .err p c=>.err p c
    | .ok t k1=>
     match sg ts [[41]] k1 with
     |some _=>.ok t (k1+1)
     |none=>jO ts E k1
   else jO ts E k)
  else jO ts E k
structure Lv where
 form:PR
 pow:PR
 un:PR
def zaU:List (Bsy):=[[43],[45],[38]]
def yb:List (Bsy):=[[42],[47],[37]]
def lv:Nat→Lv
 |0=>⟨fun _=>.err 0 14,fun _=>.err 0 14,fun _=>.err 0 14⟩
 |d+1=>
  ⟨vr ts (qM ts zaU (qM ts yb (ub ts (unP ts (qz ts E A (lv d).form) (lv d).un) (lv d).pow))),
   ub ts (unP ts (qz ts E A (lv d).form) (lv d).un) (lv d).pow,
   unP ts (qz ts E A (lv d).form) (lv d).un⟩
def jr(f:PR):Prop:=∀ k t k',f k= .ok t k'→k < k'∧k'≤ts.length
theorem qR{ops:List (Bsy)}{k:Nat}{s:Bsy}(h:sg ts ops k=some s):k < ts.length:=by
 unfold sg at h
 split at h
 next x e=>exact(List.getElem?_eq_some_iff.1 e).1
 next=>cases h
theorem zkX{ops:List (Bsy)}{f:PR}(hf:jr ts f):∀ (i:Nat) (x:Tr) (k:Nat) (t:Tr) (k':Nat),k≤ts.length→qv ts ops f i x k= .ok t k'→k≤k'∧k'≤ts.length:=by
 intro i
 induction i with
 |zero=>intro x k t k' hk h;simp only[qv,Res.ok.injEq] at h;omega
 |succ i ih=>
  intro x k t k' hk h
  simp only[qv] at h
  split at h
  ·simp only[Res.ok.injEq] at h;omega
  ·split at h
   ·cases h
   next y k1 e=>
    have:=hf _ _ _ e
    have:=ih _ _ _ _ (by omega) h
    omega
theorem zaF{ops:List (Bsy)}{f:PR}(hf:jr ts f):jr ts (qM ts ops f):=by
 intro k t k' h
 simp only[qM] at h
 split at h
 ·cases h
 next x k1 e=>
  have:=hf _ _ _ e
  have:=zkX ts hf _ _ _ _ _ (by omega) h
  omega
theorem zjZ{f:PR}(hf:jr ts f):jr ts (vr ts f):=by
 intro k t k' h
 simp only[vr] at h
 split at h
 ·cases h
 next x k1 e=>
  have:=hf _ _ _ e
  split at h
  ·simp only[Res.ok.injEq] at h;omega
  ·split at h
   ·cases h
   next y k2 e2=>
    have:=hf _ _ _ e2
    simp only[Res.ok.injEq] at h;omega
theorem zb2{f g:PR}(hf:jr ts f)(hg:jr ts g):jr ts (ub ts f g):=by
 intro k t k' h
 simp only[ub] at h
 split at h
 ·cases h
 next x k1 e=>
  have:=hf _ _ _ e
  split at h
  ·simp only[Res.ok.injEq] at h;omega
  ·split at h
   ·cases h
   next y k2 e2=>
    have:=hg _ _ _ e2
    simp only[Res.ok.injEq] at h;omega
theorem zc7{f g:PR}(hf:jr ts f)(hg:jr ts g):jr ts (unP ts f g):=by
 intro k t k' h
 simp only[unP] at h
 split at h
 ·exact hf _ _ _ h
 ·split at h
  ·cases h
  next y k2 e2=>
   have:=hg _ _ _ e2
   simp only[Res.ok.injEq] at h;omega
theorem zke{f:PR}(hf:jr ts f)(nm:Bsy):∀ (i:Nat) (acc:List Tr) (k:Nat) (t:Tr) (k':Nat),jQ ts E f nm i acc k= .ok t k'→k < k'∧k'≤ts.length:=by
 intro i
 induction i with
 |zero=>intro acc k t k' h;simp only[jQ,jO] at h;cases h
 |succ i ih=>
  intro acc k t k' h
  simp only[jQ] at h
  split at h
  ·cases h
  next y k1 e=>
   have:=hf _ _ _ e
   split at h
   ·have:=ih _ _ _ _ h;omega
   ·split at h
    next s e3=>have:=qR ts e3;simp only[Res.ok.injEq] at h;omega
    ·cases h
theorem zjK{f:PR}(hf:jr ts f){k:Nat}{x:Tk}(hx:ts[k]? =some x){t:Tr}{k':Nat}(h:qS ts E A f x k= .ok t k'):k < k'∧k'≤ts.length:=by
 have hk:k < ts.length:=(List.getElem?_eq_some_iff.1 hx).1
 simp only[qS] at h
 split at h
 ·simp only[yf] at h
  split at h
  ·cases h
  ·split at h
   next s e3=>have:=qR ts e3;simp only[Res.ok.injEq] at h;omega
   ·have:=zke ts E hf _ _ _ _ _ _ h;omega
 ·split at h
  ·simp only[Res.ok.injEq] at h;omega
  ·split at h
   ·simp only[Res.ok.injEq] at h;omega
   ·split at h
    ·cases h
    ·split at h
     ·simp only[Res.ok.injEq] at h;omega
     ·split at h
      ·cases h
      next r' c' e=>
       have:k+1+1 < ts.length:=by
        unfold jP at e
        split at e
        next y ey=>exact(List.getElem?_eq_some_iff.1 ey).1
        ·cases e
       simp only[Res.ok.injEq] at h;omega
theorem zbm{f:PR}(hf:jr ts f):jr ts (qz ts E A f):=by
 intro k t k' h
 simp only[qz] at h
 split at h
 ·cases h
 next x hx=>
  have hk:k < ts.length:=(List.getElem?_eq_some_iff.1 hx).1
  split at h
  ·simp only[Res.ok.injEq] at h;omega
  ·split at h
   ·split at h
    ·simp only[Res.ok.injEq] at h;omega
    ·cases h
   ·split at h
    ·exact zjK ts E A hf hx h
    ·split at h
     ·split at h
      ·split at h
       ·cases h
       next y k1 e=>
        have:=hf _ _ _ e
        split at h
        next s e3=>have:=qR ts e3;simp only[Res.ok.injEq] at h;omega
        ·cases h
      ·cases h
     ·cases h
theorem za6:∀ d,jr ts (lv ts E A d).form∧jr ts (lv ts E A d).pow∧jr ts (lv ts E A d).un:=by
 intro d
 induction d with
 |zero=>exact⟨fun _ _ _ h=>(nomatch h),fun _ _ _ h=>(nomatch h),fun _ _ _ h=>(nomatch h)⟩
 |succ d ih=>
  have hu:=zc7 ts (zbm ts E A ih.1) ih.2.2
  have hp:=zb2 ts hu ih.2.1
  exact⟨zjZ ts (zaF ts (zaF ts hp)),hp,hu⟩
end
end Go.PanE
