/-
 Part 21 of the proof of Rows.DumpLinesCardSaid. No conditions.
-/
import Derived.Test.YtihkphfmnnndfaaGreatDoorT20
namespace Go.PanE
open Go.Proofs
theorem wbA(h h1:Heap)(B:Nat)(c:Int)(n:Nat)(hB:h1.get B=some (.row 226 [pv B 0,.slice none 0 0] 0 false))(_hl:B < h1.nx)(a0:RD n 190 [pv B 0] h.fh=some (.tuple #[],h1))(a1:zu En (al h1 5 [.int .u8 c]) #[108,108] (.slice none 0 0) (sv h1.nx 0 1 1)=some (sv (h1.nx+1) 0 1 1,(al h1 5 [.int .u8 c]).alloc (.row 5 [.int .u8 c] 1 false)))(a2:SV ((al h1 5 [.int .u8 c]).alloc (.row 5 [.int .u8 c] 1 false)) 108 B 1 (sv (h1.nx+1) 0 1 1) (pt ((al h1 5 [.int .u8 c]).alloc (.row 5 [.int .u8 c] 1 false)) B 226 [pv B 0,sv (h1.nx+1) 0 1 1])):Fn n 230 [pv B 0,.int .u8 c] h .nilIface (pt ((al h1 5 [.int .u8 c]).alloc (.row 5 [.int .u8 c] 1 false)) B 226 [pv B 0,sv (h1.nx+1) 0 1 1]):=
 uS _ _ _ (show zbA En 18446744073709551616 orcD n 230 [.e (.tuple #[]) h1,.v (.slice none 0 0),.e (sv (h1.nx+1) 0 1 1) ((al h1 5 [.int .u8 c]).alloc (.row 5 [.int .u8 c] 1 false)),.e undef (pt ((al h1 5 [.int .u8 c]).alloc (.row 5 [.int .u8 c] 1 false)) B 226 [pv B 0,sv (h1.nx+1) 0 1 1])] [pv B 0,.int .u8 c] h [.nilIface]=
  some ([RD n 190 [pv B 0] h.fh=some (.tuple #[],h1),
   LD h1 108 B 1 (.slice none 0 0),
   zu En (al h1 5 [.int .u8 c]) #[108,108] (.slice none 0 0) (sv h1.nx 0 1 1)=some (sv (h1.nx+1) 0 1 1,(al h1 5 [.int .u8 c]).alloc (.row 5 [.int .u8 c] 1 false)),
   SV ((al h1 5 [.int .u8 c]).alloc (.row 5 [.int .u8 c] 1 false)) 108 B 1 (sv (h1.nx+1) 0 1 1) (pt ((al h1 5 [.int .u8 c]).alloc (.row 5 [.int .u8 c] 1 false)) B 226 [pv B 0,sv (h1.nx+1) 0 1 1]),
   Value.nilIface=Value.nilIface],pt ((al h1 5 [.int .u8 c]).alloc (.row 5 [.int .u8 c] 1 false)) B 226 [pv B 0,sv (h1.nx+1) 0 1 1]) by kernel_rfl)
  ⟨a0,zG hB (by kernel_rfl) rfl,a1,a2,rfl,trivial⟩
theorem wbB(h h1 h2:Heap)(B b k:Nat)(c:Int)(n:Nat)(hB:h1.get B=some (.row 226 [pv B 0,sv b 0 k k] 0 false))(_hl:B < h1.nx)(hB2:h2.get B=some (.row 226 [pv B 0,sv b 0 k k] 0 false))(a0:RD n 190 [pv B 0] h.fh=some (.tuple #[],h1))(a1:zu En (al h1 5 [.int .u8 c]) #[108,108] (sv b 0 k k) (sv h1.nx 0 1 1)=some (sv (h1.nx+1) 0 (k+1) (k+1),h2)):Fn n 230 [pv B 0,.int .u8 c] h .nilIface (pt h2 B 226 [pv B 0,sv (h1.nx+1) 0 (k+1) (k+1)]):=
 fnV (kZ h) [yC a0 (kI (ko hB)),.l 0 108 1,aS 5 [.int .u8 c],yC a1 (kI (ko hB2)),.w 0 108 1 (sv (h1.nx+1) 0 (k+1) (k+1)),.z 0]
def BSt(h:Heap)(B:Nat)(l:Bsy):Prop:=
 B < h.nx∧((l=[]∧h.get B=some (.row 226 [.pointer none,.slice none 0 0] 0 false))∨
  ∃ b,B < b∧h.get B=some (.row 226 [.pointer (some ⟨B,0,none⟩),.slice (some ⟨b,0,none⟩) l.length l.length] 0 false)∧h.get b=some (.row 5 (byC l) 1 false)∧l≠[])
structure Up(k:Nat)(h g:Heap):Prop where
 nx:h.nx≤g.nx
 wm:min k h.wm≤g.wm
 get:∀ b,b < k→g.get b=h.get b
theorem Up.refl(k:Nat)(h:Heap):Up k h h:=⟨nL_ _,by omega,fun _ _=>rfl⟩
theorem Up.trans{k:Nat}{h g f:Heap}(a:Up k h g)(b:Up k g f):Up k h f:=
 ⟨nT a.nx b.nx,by have:=a.wm;have:=b.wm;omega,fun c hc=>(b.get c hc).trans (a.get c hc)⟩
theorem Up.alloc{k:Nat}(h:Heap)(o:AObj)(hk:k≤h.nx):Up k h (h.alloc o):=⟨by rw[zt];omega,by rw[zl];omega,fun b hb=>zm h o (by omega)⟩
theorem Up.put{k:Nat}(h:Heap){p:Nat}(o:AObj)(hk:k≤p)(hp:p < h.nx):Up k h (h.put p o):=⟨nL_ _,by rw[ze];omega,fun b hb=>zf h p b o hp (by omega)⟩
theorem Up.kill{k:Nat}(h:Heap){p:Nat}(hk:k≤p):Up k h (h.kill p):=⟨nL_ _,by rw[vf];omega,fun b hb=>zU h (by omega)⟩
theorem zbo:orcD 190=some yu:=by kernel_rfl
theorem zbp:orcD 132=some yv:=by kernel_rfl
theorem zuI{h:Heap}{B:Nat}{x:Value}(n:Nat)(hB:h.get B=some (.row 226 [.pointer none,x] 0 false)):RD (n+1) 190 [.pointer (some ⟨B,0,none⟩)] h=some (.tuple #[],h.put B (.row 226 [.pointer (some ⟨B,0,none⟩),x] 0 false)):=by
 show zB En orcD (drawn En) 18446744073709551616 (n+1) 190 _ h=_
 simp only[zB,zbo,yu,hB,Nat.beq_refl,Bool.true_or,cond_true,jd,uG,jh,lC,lN,Nat.zero_lt_succ,if_true,List.set_cons_zero]
theorem zuH{h:Heap}{B:Nat}{x:Value}(n:Nat)(hB:h.get B=some (.row 226 [.pointer (some ⟨B,0,none⟩),x] 0 false)):RD (n+1) 190 [.pointer (some ⟨B,0,none⟩)] h=some (.tuple #[],h):=by
 show zB En orcD (drawn En) 18446744073709551616 (n+1) 190 _ h=_
 simp only[zB,zbo,yu,hB,Nat.beq_refl,cond_true]
theorem Up.finish{k:Nat}{h g:Heap}{v:Value}(u:Up k (Heap.fh h) g)(hk:k≤h.nx):Up k h (PanE.zy h v g).2:=by
 unfold PanE.zy
 split
 ·exact Up.refl k h
 ·refine⟨u.nx,?_,u.get⟩
  have:=u.wm
  have e:(Heap.fh h).wm=h.nx:=rfl
  rw[e] at this
  show min k h.wm≤min h.wm g.wm
  omega
theorem zbU(h:Heap)(B k:Nat)(l:Bsy)(c:UInt8)(n:Nat)(hn:2≤n)(S:BSt h B l)(hk:k≤B)(hl:l.length≤5000):
  ∃ h',RD n 230 [.pointer (some ⟨B,0,none⟩),.int .u8 (c.toNat:Int)] h=some (.nilIface,h')∧BSt h' B (l++[c])∧Up k h h':=by
 obtain⟨m,rfl⟩:∃ m,n=m+1+1:=⟨n - 2,by omega⟩
 obtain⟨hlt,S⟩:=S
 have hbeta:∀ g:Heap,g.wm≤B→zy h .nilIface g=(.nilIface,{g with wm:=min h.wm g.wm}):=fun g hg=>uo (by omega)
 rcases S with⟨rfl,hB⟩|⟨b,hbB,hB,hb,hne⟩
 ·have hB':(Heap.fh h).get B=some (.row 226 [.pointer none,.slice none 0 0] 0 false):=hB
  have cc:=zuI m hB'
  generalize hh1:(Heap.fh h).put B (.row 226 [.pointer (some ⟨B,0,none⟩),.slice none 0 0] 0 false)=h1 at cc
  have n1:h1.nx=h.nx:=by rw[← hh1];rfl
  have g1:h1.get B=some (.row 226 [.pointer (some ⟨B,0,none⟩),.slice none 0 0] 0 false):=by rw[← hh1];exact zi _ _ _ hlt
  have u1:Up k (Heap.fh h) h1:=by rw[← hh1];exact Up.put _ _ hk hlt
  have ap:=vv (h:=h1.alloc (.row 5 [.int .u8 (c.toNat:Int)] 0 false)) (c:=1) qV (zb h1 _) (o:=0) (n:=1) (xs:=[.int .u8 (c.toNat:Int)]) rfl rfl (by decide) (by decide)
  have g2:((h1.alloc (.row 5 [.int .u8 (c.toNat:Int)] 0 false)).alloc (.row 5 [.int .u8 (c.toNat:Int)] 1 false)).get B=some (.row 226 [.pointer (some ⟨B,0,none⟩),.slice none 0 0] 0 false):=by
   rw[zm _ _ (by rw[zt];omega),zm _ _ (by omega)];exact g1
  have pth:=wbA h h1 B (c.toNat:Int) (m+1) g1 (by omega) cc ap (yp 1 g2 (by kernel_rfl) rfl rfl)
  generalize hh2:((h1.alloc (.row 5 [.int .u8 (c.toNat:Int)] 0 false)).alloc (.row 5 [.int .u8 (c.toNat:Int)] 1 false))=h2 at pth g2
  have n2:h2.nx=h.nx+2:=by rw[← hh2,zt,zt,n1]
  have gb:h2.get (h1.nx+1)=some (.row 5 (byC [c]) 1 false):=by rw[← hh2];exact zb _ _
  have u2:Up k h1 h2:=by rw[← hh2];exact(Up.alloc _ _ (by omega)).trans (Up.alloc _ _ (by rw[zt];omega))
  refine⟨_,pth.trans (congrArg some (hbeta _ (by rw[ze];omega))),⟨by show B < h2.nx;omega,.inr ⟨h1.nx+1,by omega,?_,?_,by simp⟩⟩,?_⟩
  ·show(h2.put B _).get B=_
   exact zi _ _ _ (by omega)
  ·show(h2.put B _).get (h1.nx+1)=_
   rw[zf _ _ _ _ (by omega) (by omega)];exact gb
  ·have u3:=(u1.trans u2).trans (Up.put h2 (.row 226 [.pointer (some ⟨B,0,none⟩),.slice (some ⟨h1.nx+1,0,none⟩) 1 1] 0 false) hk (by omega))
   have:=u3.finish (v:=.nilIface) (by omega)
   rw[hbeta _ (by rw[ze];omega)] at this
   exact this
 ·have hB':(Heap.fh h).get B=some (.row 226 [.pointer (some ⟨B,0,none⟩),.slice (some ⟨b,0,none⟩) l.length l.length] 0 false):=hB
  have hb':(Heap.fh h).get b=some (.row 5 (byC l) 1 false):=hb
  have hbl:b < h.nx:=za hb
  have cc:=zuH m hB'
  have ap:=qK (h:=(Heap.fh h).alloc (.row 5 [.int .u8 (c.toNat:Int)] 0 false)) (c:=1) (l:=l.length) (cells:=byC l) qV ((zm _ _ hbl).trans hb') (by rw[wg];omega) (zb (Heap.fh h) _) (o:=0) (n:=1) (xs:=[.int .u8 (c.toNat:Int)]) rfl rfl rfl (by decide) (by omega)
  generalize hh2:(((Heap.fh h).alloc (.row 5 [.int .u8 (c.toNat:Int)] 0 false)).kill b).alloc (.row 5 (byC l++[.int .u8 (c.toNat:Int)]) 1 false)=h2 at ap
  have n2:h2.nx=h.nx+2:=by rw[← hh2];rfl
  have g2:h2.get B=some (.row 226 [.pointer (some ⟨B,0,none⟩),.slice (some ⟨b,0,none⟩) l.length l.length] 0 false):=by
   rw[← hh2,zm _ _ (by rw[jb,zt];show B < h.nx+1;omega),zU _ (by omega)];exact(zm (Heap.fh h) _ hlt).trans hB'
  have gb:h2.get ((Heap.fh h).nx+1)=some (.row 5 (byC (l++[c])) 1 false):=by
   rw[← hh2]
   have:byC (l++[c])=byC l++[.int .u8 (c.toNat:Int)]:=by simp[byC]
   rw[this]
   exact zb _ _
  have u2:Up k (Heap.fh h) h2:=by
   rw[← hh2]
   exact((Up.alloc _ _ (by show k≤h.nx;omega)).trans (Up.kill _ (by omega))).trans (Up.alloc _ _ (by rw[jb,zt];show k≤h.nx+1;omega))
  have pth:=wbB h (Heap.fh h) h2 B b l.length (c.toNat:Int) (m+1) hB' hlt g2 cc ap
  have hbe:=hbeta (h2.put B (.row 226 [.pointer (some ⟨B,0,none⟩),.slice (some ⟨(Heap.fh h).nx+1,0,none⟩) (l.length+1) (l.length+1)] 0 false)) (by rw[ze];omega)
  have hN:(Heap.fh h).nx=h.nx:=rfl
  refine⟨_,pth.trans (congrArg some hbe),⟨by show B < h2.nx;omega,.inr ⟨(Heap.fh h).nx+1,by omega,?_,?_,by simp⟩⟩,?_⟩
  ·show(h2.put B _).get B=_
   rw[zi _ _ _ (by omega)];simp
  ·show(h2.put B _).get ((Heap.fh h).nx+1)=_
   rw[zf _ _ _ _ (by omega) (by omega)];exact gb
  ·have u3:=u2.trans (Up.put h2 (.row 226 [.pointer (some ⟨B,0,none⟩),.slice (some ⟨(Heap.fh h).nx+1,0,none⟩) (l.length+1) (l.length+1)] 0 false) hk (by omega))
   have:=u3.finish (v:=.nilIface) (by omega)
   rw[hbe] at this
   exact this
theorem zeb(l:Bsy):bytes8 (byC l)=some l:=zkc l
theorem zbO(h:Heap)(B k:Nat)(l:Bsy)(n:Nat)(hn:1≤n)(S:BSt h B l)(hk:k≤B)(hl:l.length≤5000):
  ∃ h',RD n 132 [.pointer (some ⟨B,0,none⟩)] h=some (.string ⟨⟨l⟩⟩,h')∧Up k h h':=by
 obtain⟨m,rfl⟩:=zs_ n
 obtain⟨hlt,S⟩:=S
 rcases S with⟨rfl,hB⟩|⟨b,hbB,hB,hb,hne⟩
 ·refine⟨h,?_,Up.refl _ _⟩
  show zB En orcD (drawn En) 18446744073709551616 (m+1) 132 _ h=_
  simp only[zB,zbp,yv,hB]
 ·refine⟨h.put b (.row 5 (byC l) 1 true),?_,Up.put _ _ (by omega) (za hb)⟩
  have h0:0 < l.length:=List.length_pos_iff.2 hne
  have c:(Nat.blt 0 l.length && Nat.ble l.length l.length && Nat.beq ((byC l).take l.length).length l.length && Nat.ble l.length 140737488355328)=true:=by
   have e1:Nat.blt 0 l.length=true:=by rw[Nat.blt_eq];exact h0
   have e2:Nat.ble l.length l.length=true:=by rw[Nat.ble_eq];exact nL_ _
   have e3:Nat.ble l.length 140737488355328=true:=by rw[Nat.ble_eq];omega
   have e4:Nat.beq ((byC l).take l.length).length l.length=true:=by
    rw[List.take_of_length_le (by rw[wg];omega),wg];exact Nat.beq_refl _
   rw[e1,e2,e3,e4];rfl
  have t:(byC l).take l.length=byC l:=List.take_of_length_le (by rw[wg];omega)
  rw[t] at c
  show zB En orcD (drawn En) 18446744073709551616 (m+1) 132 _ h=_
  simp only[zB,zbp,yv,hB,hb,t,c,cond_true,zeb]
noncomputable section
abbrev uE:Vs:=[iv 0,iv 0,.string ⟨#[]⟩,iv 0]
abbrev zgi(s:BA)(at_ B:Nat)(o:BA)(i:Nat):List (Nat×Value):=[(0,.string s),(1,iv (at_:Int)),(4,pv B 0),(6,.string o),(7,iv (i:Int))]
abbrev zgh(s:BA)(B i:Nat):List (Nat×Value):=[(0,.string s),(4,pv B 0),(5,iv (i:Int))]
abbrev zsn(s:BA)(at_:Nat)(h:Heap):List (Nat×Value):=[(0,.string s),(1,iv (at_:Int)),(4,pv h.nx 0),(5,iv 0),(6,.string ⟨#[]⟩),(8,iv (at_:Int)),(9,iv ((at_:Int)+1)),(7,iv ((at_:Int)+1))]
abbrev ziQ:Vs:=[.pointer none,.slice none 0 0]
abbrev zgg(o:BA)(at_:Nat):Vs:=[iv 2,iv 0,.string o,iv (at_:Int)]
variable (h h2:Heap) (s t o:BA) (B i at_:Nat) (e:Int) (n:Nat)
theorem zkD(_h1:i < s.data.toList.length)(_h2:s.data.toList.length < 4611686018427387904)(a0:decide ((i:Int) < s.data.toList.length)=true)(a1:(((bAt s (i:Int):Int):Int) !=34)=true)(a2:RD n 230 [pv B 0,.int .u8 (bAt s (i:Int):Int)] h=some (.nilIface,h2)):Bd n 38 [1,1,0,1,0,0] Tryz.f219 (zgh s B i) h .normal [(0,.string s),(4,pv B 0),(5,iv ((i:Int)+1))] h2:=
 bdF (kZ h) [yT a0,yI 9 s (i:Int),yT a1,yI 9 s (i:Int),yC a2 (kZ h2),yW ((i:Int)+1),.z 0]
theorem zmT(_h1:i < s.data.toList.length)(_h2:s.data.toList.length < 4611686018427387904)(a0:decide ((i:Int) < s.data.toList.length)=true)(a1:(((bAt s (i:Int):Int):Int) !=34)=false)(a2:(((i:Int)+1:Int)==s.data.toList.length)=true)(a3:RD n 132 [pv B 0] h=some (.string t,h2)):Bd n 38 [1,1,0,1,0,0] Tryz.f219 (zgh s B i) h .ret [(2,.string t),(3,iv ((i:Int)+1))] h2:=
 bdF (kZ h) [yT a0,yI 9 s (i:Int),yF a1,yW ((i:Int)+1),yT a2,yC a3 (kZ h2),yW ((i:Int)+1),.z 0]
theorem zmS(_h1:i < s.data.toList.length)(_h2:s.data.toList.length < 4611686018427387904)(_h3:i+1 < s.data.toList.length)(a0:decide ((i:Int) < s.data.toList.length)=true)(a1:(((bAt s (i:Int):Int):Int) !=34)=false)(a2:(((i:Int)+1:Int)==s.data.toList.length)=false)(a3:(((bAt s ((i:Int)+1):Int):Int) !=34)=true)(a4:RD n 132 [pv B 0] h=some (.string t,h2)):Bd n 38 [1,1,0,1,0,0] Tryz.f219 (zgh s B i) h .ret [(2,.string t),(3,iv ((i:Int)+1))] h2:=
 bdF (kZ h) [yT a0,yI 9 s (i:Int),yF a1,yW ((i:Int)+1),yF a2,yW ((i:Int)+1),yI 9 s ((i:Int)+1),yT a3,yC a4 (kZ h2),yW ((i:Int)+1),.z 0]
theorem zqd(_h1:i < s.data.toList.length)(_h2:s.data.toList.length < 4611686018427387904)(_h3:i+1 < s.data.toList.length)(a0:decide ((i:Int) < s.data.toList.length)=true)(a1:(((bAt s (i:Int):Int):Int) !=34)=false)(a2:(((i:Int)+1:Int)==s.data.toList.length)=false)(a3:(((bAt s ((i:Int)+1):Int):Int) !=34)=false)(a4:RD n 230 [pv B 0,.int .u8 34] h=some (.nilIface,h2)):Bd n 38 [1,1,0,1,0,0] Tryz.f219 (zgh s B i) h .normal [(0,.string s),(4,pv B 0),(5,iv (((i:Int)+1)+1))] h2:=
 bdF (kZ h) [yT a0,yI 9 s (i:Int),yF a1,yW ((i:Int)+1),yF a2,yW ((i:Int)+1),yI 9 s ((i:Int)+1),yF a3,yW ((i:Int)+1),yC a4 (kZ h2),yW (((i:Int)+1)+1),.z 0]
theorem zeu(a0:decide ((i:Int) < s.data.toList.length)=false):Bd n 38 [1,1,0,1,0,0] Tryz.f219 (zgh s B i) h (.exit 0) [] h:=
 bdF (kZ h) [yF a0]
theorem zmQ(a0:Lf n 38 [1,1,0,1,0,0] Tryz.f219 [(0,.string s),(2,.string ⟨#[]⟩),(3,iv 0),(4,pv h.nx 0),(5,iv 1)] (al h.fh 226 ziQ) (.exit 0) [] h2):Fn n 219 [.string s] h (.tuple #[.string ⟨#[]⟩,iv 0]) h2:=
 fnT (kZ h) [aS 226 ziQ,yS a0 (kZ h2),.z 0]
theorem zmP(a0:Lf n 38 [1,1,0,1,0,0] Tryz.f219 [(0,.string s),(2,.string ⟨#[]⟩),(3,iv 0),(4,pv h.nx 0),(5,iv 1)] (al h.fh 226 ziQ) .ret [(2,.string t),(3,iv e)] h2):Fn n 219 [.string s] h (.tuple #[.string t,iv e]) h2:=
 fnT (kZ h) [aS 226 ziQ,yS a0 (kZ h2),.z 0]
theorem zkC(_h1:i < s.data.toList.length)(_h2:s.data.toList.length < 4611686018427387904)(_h3:o.size < 4611686018427387904)(_h4:at_ < i)(_h5:o.size+(zv s (i:Int) ((i:Int)+1)).size≤9223372036854775807)(a0:decide ((i:Int) < s.data.toList.length)=true)(a1:(((bAt s (i:Int):Int):Int) !=34)=true)(a2:Value.string (o++(zv s (i:Int) ((i:Int)+1)))=Value.string (o++zv s (i:Int) ((i:Int)+1))):Bd n 51 [1,1,0,1,0,0] Tryz.f149 (zgi s at_ B o i) h .normal [(0,.string s),(1,iv (at_:Int)),(4,pv B 0),(6,.string (o++zv s (i:Int) ((i:Int)+1))),(7,iv ((i:Int)+1))] h:=
 bdF (kZ h) [yT a0,yI 9 s (i:Int),yT a1,yW ((i:Int)+1),cB 9 s (i:Int) ((i:Int)+1),.x [.v (.string (o++(zv s (i:Int) ((i:Int)+1))))] fun _=>[⟨jn .add o (zv s (i:Int) ((i:Int)+1))=some (.string (o++(zv s (i:Int) ((i:Int)+1)))),jV (by omega)⟩],yW ((i:Int)+1),.x [] fun _=>[⟨Value.string s=Value.string s,rfl⟩],.x [] fun _=>[⟨iv (at_:Int)=iv (at_:Int),rfl⟩],.x [] fun _=>[⟨pv B 0=pv B 0,rfl⟩],yH a2,.z 4]
theorem zqb(_h1:i < s.data.toList.length)(_h2:s.data.toList.length < 4611686018427387904)(_h3:o.size < 4611686018427387904)(_h4:at_ < i)(_h6:i+1 < s.data.toList.length)(_h5:o.size+(⟨#[34]⟩:BA).size≤9223372036854775807)(a0:decide ((i:Int) < s.data.toList.length)=true)(a1:(((bAt s (i:Int):Int):Int) !=34)=false)(a2:decide (((i:Int)+1:Int) < s.data.toList.length)=true)(a3:(((bAt s ((i:Int)+1):Int):Int)==34)=true):Bd n 51 [1,1,0,1,0,0] Tryz.f149 (zgi s at_ B o i) h .normal [(0,.string s),(1,iv (at_:Int)),(4,pv B 0),(6,.string (o++⟨#[34]⟩)),(7,iv (((i:Int)+1)+1))] h:=
 bdF (kZ h) [yT a0,yI 9 s (i:Int),yF a1,yW ((i:Int)+1),yT a2,yW ((i:Int)+1),yI 9 s ((i:Int)+1),yT a3,.x [.v (.string (o++⟨#[34]⟩))] fun _=>[⟨jn .add o ⟨#[34]⟩=some (.string (o++⟨#[34]⟩)),jV (by omega)⟩],yW ((i:Int)+1),yW (((i:Int)+1)+1),.z 0]
theorem zmO(_h1:i < s.data.toList.length)(_h2:s.data.toList.length < 4611686018427387904)(_h3:o.size < 4611686018427387904)(_h4:at_ < i)(hB:h.get B=some (.row 199 uE 0 false))(a0:decide ((i:Int) < s.data.toList.length)=true)(a1:(((bAt s (i:Int):Int):Int) !=34)=false)(a2:decide (((i:Int)+1:Int) < s.data.toList.length)=false)(a3:iv (((i:Int)+1) - (at_:Int))=iv ((((i:Int))+1) - (at_:Int))):Bd n 51 [1,1,0,1,0,0] Tryz.f149 (zgi s at_ B o i) h .ret [(4,pv B 0),(5,iv ((((i:Int))+1) - (at_:Int)))] (pt h B 199 (zgg o at_)):=
 bdF (kI (ko hB)) [yT a0,yI 9 s (i:Int),yF a1,yW ((i:Int)+1),yF a2,yW ((i:Int)+1),yW (((i:Int)+1) - (at_:Int)),.w 0 199 0 (.agg #[iv 2,iv 0,.string o,iv (at_:Int)]),.x [] fun _=>[⟨pv B 0=pv B 0,rfl⟩],yH a3]
theorem zmN(_h1:i < s.data.toList.length)(_h2:s.data.toList.length < 4611686018427387904)(_h3:o.size < 4611686018427387904)(_h4:at_ < i)(_h6:i+1 < s.data.toList.length)(hB:h.get B=some (.row 199 uE 0 false))(a0:decide ((i:Int) < s.data.toList.length)=true)(a1:(((bAt s (i:Int):Int):Int) !=34)=false)(a2:decide (((i:Int)+1:Int) < s.data.toList.length)=true)(a3:(((bAt s ((i:Int)+1):Int):Int)==34)=false)(a4:iv (((i:Int)+1) - (at_:Int))=iv ((((i:Int))+1) - (at_:Int))):Bd n 51 [1,1,0,1,0,0] Tryz.f149 (zgi s at_ B o i) h .ret [(4,pv B 0),(5,iv ((((i:Int))+1) - (at_:Int)))] (pt h B 199 (zgg o at_)):=
 bdF (kI (ko hB)) [yT a0,yI 9 s (i:Int),yF a1,yW ((i:Int)+1),yT a2,yW ((i:Int)+1),yI 9 s ((i:Int)+1),yF a3,yW ((i:Int)+1),yW (((i:Int)+1) - (at_:Int)),.w 0 199 0 (.agg #[iv 2,iv 0,.string o,iv (at_:Int)]),.x [] fun _=>[⟨pv B 0=pv B 0,rfl⟩],yH a4]
theorem zet(a0:decide ((i:Int) < s.data.toList.length)=false):Bd n 51 [1,1,0,1,0,0] Tryz.f149 (zgi s at_ B o i) h (.exit 0) [(4,pv B 0)] h:=
 bdF (kZ h) [yF a0,.z 0]
theorem zmK(_h1:at_ < 4611686018427387904)(a0:Lf n 51 [1,1,0,1,0,0] Tryz.f149 (zsn s at_ h) (al h.fh 199 uE) .ret [(4,pv h.nx 0),(5,iv e)] (pt (al h.fh 199 uE) h.nx 199 (zgg o at_))):Fn n 149 [.string s,iv (at_:Int)] h (.tuple #[.agg #[iv 2,iv 0,.string o,iv (at_:Int)],iv e]) (pt (al h.fh 199 uE) h.nx 199 (zgg o at_)):=
 fnT (kZ h) [aS 199 uE,yW ((at_:Int)+1),yS a0 (kI (ko (show(pt (al h.fh 199 uE) h.nx 199 (zgg o at_)).get h.nx=_ from(gP (show h.nx < h.nx+1 by omega))))),.r 0 199 4,.z 1]
theorem zmL(_h1:at_ < 4611686018427387904)(a0:Lf n 51 [1,1,0,1,0,0] Tryz.f149 (zsn s at_ h) (al h.fh 199 uE) (.exit 0) [(4,pv h.nx 0)] (al h.fh 199 uE)):Fn n 149 [.string s,iv (at_:Int)] h (.tuple #[.agg #[iv 0,iv 0,.string ⟨#[]⟩,iv 0],iv 0]) (pt (al h.fh 199 uE) h.nx 199 uE):=
 fnT (kZ h) [aS 199 uE,yW ((at_:Int)+1),yS a0 (kI (ko (show(al h.fh 199 uE).get h.nx=_ from gN))),.w 0 199 0 (.agg #[iv 0,iv 0,.string ⟨#[]⟩,iv 0]),.r 0 199 4,.z 1]
end
noncomputable section
abbrev zT(L:Bsy):AObj:=.row 5 (byC L) 1 false
abbrev zgk(h:Heap)(N i:Nat):List (Nat×Value):=[(3,sv h.nx 0 N N),(8,sv h.nx 0 N N),(9,iv (N:Int)),(10,iv (i:Int))]
abbrev zaS(L:Bsy)(i:Nat)(x:UInt8):AObj:=.row 5 (byC (L.set i (x - 32))) 1 false
abbrev ziS(h:Heap)(N i:Nat):List (Nat×Value):=[(3,sv h.nx 0 N N),(8,sv h.nx 0 N N),(9,iv (N:Int)),(10,iv ((i:Int)+1))]
abbrev zer(s:BA):AObj:=.row 5 (byC s.data.toList) 1 false
abbrev zgj(h:Heap)(N i:Nat):List (Nat×Value):=[(3,sv h.nx 0 N N),(4,iv (i:Int))]
abbrev ziR(h:Heap)(N i:Nat):List (Nat×Value):=[(3,sv h.nx 0 N N),(4,iv ((i:Int)+1))]
variable (h:Heap) (s:BA) (L:Bsy) (i N:Nat) (x:UInt8) (n:Nat)
theorem zsv(_hN:N=L.length)(_hi:i < N)(_hs:N < 4611686018427387904)(_hx:L.drop i=x::L.drop (i+1))(_hb:x.toNat < 256)(a0:decide ((i:Int) < (N:Int))=true)(a1:decide (((x.toNat:Int):Int)≥97)=false):Bd n 30 [1,1,0,1,0,0] Tryz.f221 (zgk h N i) (h.fh.alloc (zT L)) .normal (ziS h N i) (h.fh.alloc (zT L)):=
 bdF (kZ (h.fh.alloc (zT L))) [yT a0,iA 108 5 1 h.nx N i,.x [.v (.int .u8 (x.toNat:Int))] fun _=>[⟨LD (h.fh.alloc (zT L)) 5 h.nx (0+i * 1) (.int .u8 (x.toNat:Int)),zG (zb _ _) (by kernel_rfl) (by rw[Nat.zero_add,Nat.mul_one];exact ut _hx)⟩],yF a1,yW ((i:Int)+1),.z 0]
theorem zsw(_hN:N=L.length)(_hi:i < N)(_hs:N < 4611686018427387904)(_hx:L.drop i=x::L.drop (i+1))(_hb:x.toNat < 256)(a0:decide ((i:Int) < (N:Int))=true)(a1:decide (((x.toNat:Int):Int)≥97)=true)(a2:decide (((x.toNat:Int):Int)≤122)=false):Bd n 30 [1,1,0,1,0,0] Tryz.f221 (zgk h N i) (h.fh.alloc (zT L)) .normal (ziS h N i) (h.fh.alloc (zT L)):=
 bdF (kZ (h.fh.alloc (zT L))) [yT a0,iA 108 5 1 h.nx N i,.x [.v (.int .u8 (x.toNat:Int))] fun _=>[⟨LD (h.fh.alloc (zT L)) 5 h.nx (0+i * 1) (.int .u8 (x.toNat:Int)),zG (zb _ _) (by kernel_rfl) (by rw[Nat.zero_add,Nat.mul_one];exact ut _hx)⟩],yT a1,yF a2,yW ((i:Int)+1),.z 0]
theorem zsu(_hN:N=L.length)(_hi:i < N)(_hs:N < 4611686018427387904)(_hx:L.drop i=x::L.drop (i+1))(_hb:x.toNat < 256)(a0:decide ((i:Int) < (N:Int))=true)(a1:decide (((x.toNat:Int):Int)≥97)=true)(a2:decide (((x.toNat:Int):Int)≤122)=true)(a3:SV (h.fh.alloc (zT L)) 5 h.nx (0+i * 1) (.int .u8 (((x.toNat:Int) - 97)+65)) (h.fh.alloc (zaS L i x))):Bd n 30 [1,1,0,1,0,0] Tryz.f221 (zgk h N i) (h.fh.alloc (zT L)) .normal (ziS h N i) (h.fh.alloc (zaS L i x)):=
 zaj (show zbx En (RD n) 30 18446744073709551616 (sub [1,1,0,1,0,0] (zp Tryz.f221)) [.b true,.v (pv h.nx (0+i * 1)),.v (.int .u8 (x.toNat:Int)),.b true,.b true,.v (.int .u8 ((x.toNat:Int) - 97)),.v (.int .u8 (((x.toNat:Int) - 97)+65)),.v (pv h.nx (0+i * 1)),.e undef (h.fh.alloc (zaS L i x)),.v (iv ((i:Int)+1))] (zgk h N i) (h.fh.alloc (zT L)) (ziS h N i)=
  some ([decide ((i:Int) < (N:Int))=true,
   wd En 108 (sv h.nx 0 N N) (iv (i:Int))=some (pv h.nx (0+i * 1)),
   LD (h.fh.alloc (zT L)) 5 h.nx (0+i * 1) (.int .u8 (x.toNat:Int)),
   decide (((x.toNat:Int):Int)≥97)=true,
   decide (((x.toNat:Int):Int)≤122)=true,
   some (Value.int .u8 (IntKind.u8.wrap ((x.toNat:Int) - 97)))=some (.int .u8 ((x.toNat:Int) - 97)),
   some (Value.int .u8 (IntKind.u8.wrap (((x.toNat:Int) - 97)+65)))=some (.int .u8 (((x.toNat:Int) - 97)+65)),
   wd En 108 (sv h.nx 0 N N) (iv (i:Int))=some (pv h.nx (0+i * 1)),
   SV (h.fh.alloc (zT L)) 5 h.nx (0+i * 1) (.int .u8 (((x.toNat:Int) - 97)+65)) (h.fh.alloc (zaS L i x)),
   WR ((i:Int)+1),
   sv h.nx 0 N N=sv h.nx 0 N N,
   sv h.nx 0 N N=sv h.nx 0 N N,
   iv (N:Int)=iv (N:Int),
   iv ((i:Int)+1)=iv ((i:Int)+1)],.normal,h.fh.alloc (zaS L i x)) by kernel_rfl)
  ⟨a0,qj (e:=5) (by kernel_rfl) (by kernel_rfl) (by first|omega|(simp at *;omega)),zG (zb _ _) (by kernel_rfl) (by rw[Nat.zero_add,Nat.mul_one];exact ut _hx),a1,a2,zeh (by first|omega|(simp at *;omega)) (by first|omega|(simp at *;omega)),zeh (by first|omega|(simp at *;omega)) (by first|omega|(simp at *;omega)),qj (e:=5) (by kernel_rfl) (by kernel_rfl) (by first|omega|(simp at *;omega)),a3,uV (by first|omega|(simp at *;omega)) (by first|omega|(simp at *;omega)),rfl,rfl,rfl,rfl,trivial⟩
theorem zp8(a0:decide ((i:Int) < (N:Int))=false):Bd n 30 [1,1,0,1,0,0] Tryz.f221 (zgk h N i) (h.fh.alloc (zT L)) (.exit 0) [(3,sv h.nx 0 N N)] (h.fh.alloc (zT L)):=
 bdF (kZ (h.fh.alloc (zT L))) [yF a0,.z 0]
theorem zvp(_hs:s.data.toList.length < 140737488355328)(a0:Lf n 30 [1,1,0,1,0,0] Tryz.f221 [(0,.string s),(2,.string ⟨#[]⟩),(6,.string s),(7,sv h.nx 0 s.data.toList.length s.data.toList.length),(3,sv h.nx 0 s.data.toList.length s.data.toList.length),(8,sv h.nx 0 s.data.toList.length s.data.toList.length),(9,iv s.data.toList.length),(10,iv 0)] (h.fh.alloc (zer s)) (.exit 0) [(3,sv h.nx 0 N N)] (h.fh.alloc (zT L)))(a1:conv En (h.fh.alloc (zT L)) 108 9 (sv h.nx 0 N N)=some (.string ⟨⟨L⟩⟩)):Fn n 221 [.string s] h (.string ⟨⟨L⟩⟩) (h.fh.alloc (zT L)):=
 fnV (kZ h) [.x [.o (fun k=>sv k 0 s.data.toList.length s.data.toList.length) (zer s)] fun _=>[⟨zdL s=some (fun k=>sv k 0 s.data.toList.length s.data.toList.length,(zer s)),zdK _ (by omega)⟩],.a 5 (byC s.data.toList) 1 false,yS a0 (kZ (h.fh.alloc (zT L))),yE a1,.z 0]
theorem zss(_hN:N=L.length)(_hi:i < N)(_hs:N < 4611686018427387904)(_hx:L.drop i=x::L.drop (i+1))(_hb:x.toNat < 256)(a0:decide ((i:Int) < N)=true)(a1:decide (((x.toNat:Int):Int)≥97)=false):Bd n 33 [1,1,0,1,0,0] Tryz.f148 (zgj h N i) (h.fh.alloc (zT L)) .normal (ziR h N i) (h.fh.alloc (zT L)):=
 bdF (kZ (h.fh.alloc (zT L))) [yT a0,iA 108 5 1 h.nx N i,.x [.v (.int .u8 (x.toNat:Int))] fun _=>[⟨LD (h.fh.alloc (zT L)) 5 h.nx (0+i * 1) (.int .u8 (x.toNat:Int)),zG (zb _ _) (by kernel_rfl) (by rw[Nat.zero_add,Nat.mul_one];exact ut _hx)⟩],yF a1,yW ((i:Int)+1),.z 0]
theorem zst(_hN:N=L.length)(_hi:i < N)(_hs:N < 4611686018427387904)(_hx:L.drop i=x::L.drop (i+1))(_hb:x.toNat < 256)(a0:decide ((i:Int) < N)=true)(a1:decide (((x.toNat:Int):Int)≥97)=true)(a2:decide (((x.toNat:Int):Int)≤122)=false):Bd n 33 [1,1,0,1,0,0] Tryz.f148 (zgj h N i) (h.fh.alloc (zT L)) .normal (ziR h N i) (h.fh.alloc (zT L)):=
 bdF (kZ (h.fh.alloc (zT L))) [yT a0,iA 108 5 1 h.nx N i,.x [.v (.int .u8 (x.toNat:Int))] fun _=>[⟨LD (h.fh.alloc (zT L)) 5 h.nx (0+i * 1) (.int .u8 (x.toNat:Int)),zG (zb _ _) (by kernel_rfl) (by rw[Nat.zero_add,Nat.mul_one];exact ut _hx)⟩],yT a1,iA 108 5 1 h.nx N i,.x [.v (.int .u8 (x.toNat:Int))] fun _=>[⟨LD (h.fh.alloc (zT L)) 5 h.nx (0+i * 1) (.int .u8 (x.toNat:Int)),zG (zb _ _) (by kernel_rfl) (by rw[Nat.zero_add,Nat.mul_one];exact ut _hx)⟩],yF a2,yW ((i:Int)+1),.z 0]
theorem zsr(_hN:N=L.length)(_hi:i < N)(_hs:N < 4611686018427387904)(_hx:L.drop i=x::L.drop (i+1))(_hb:x.toNat < 256)(a0:decide ((i:Int) < N)=true)(a1:decide (((x.toNat:Int):Int)≥97)=true)(a2:decide (((x.toNat:Int):Int)≤122)=true)(a3:SV (h.fh.alloc (zT L)) 5 h.nx (0+i * 1) (.int .u8 ((x.toNat:Int) - 32)) (h.fh.alloc (zaS L i x))):Bd n 33 [1,1,0,1,0,0] Tryz.f148 (zgj h N i) (h.fh.alloc (zT L)) .normal (ziR h N i) (h.fh.alloc (zaS L i x)):=
 zaj (show zbx En (RD n) 33 18446744073709551616 (sub [1,1,0,1,0,0] (zp Tryz.f148)) [.b true,.v (pv h.nx (0+i * 1)),.v (.int .u8 (x.toNat:Int)),.b true,.v (pv h.nx (0+i * 1)),.v (.int .u8 (x.toNat:Int)),.b true,.v (pv h.nx (0+i * 1)),.v (.int .u8 (x.toNat:Int)),.v (.int .u8 ((x.toNat:Int) - 32)),.v (pv h.nx (0+i * 1)),.e undef (h.fh.alloc (zaS L i x)),.v (iv ((i:Int)+1))] (zgj h N i) (h.fh.alloc (zT L)) (ziR h N i)=
  some ([decide ((i:Int) < N)=true,
   wd En 108 (sv h.nx 0 N N) (iv (i:Int))=some (pv h.nx (0+i * 1)),
   LD (h.fh.alloc (zT L)) 5 h.nx (0+i * 1) (.int .u8 (x.toNat:Int)),
   decide (((x.toNat:Int):Int)≥97)=true,
   wd En 108 (sv h.nx 0 N N) (iv (i:Int))=some (pv h.nx (0+i * 1)),
   LD (h.fh.alloc (zT L)) 5 h.nx (0+i * 1) (.int .u8 (x.toNat:Int)),
   decide (((x.toNat:Int):Int)≤122)=true,
   wd En 108 (sv h.nx 0 N N) (iv (i:Int))=some (pv h.nx (0+i * 1)),
   LD (h.fh.alloc (zT L)) 5 h.nx (0+i * 1) (.int .u8 (x.toNat:Int)),
   some (Value.int .u8 (IntKind.u8.wrap ((x.toNat:Int) - 32)))=some (.int .u8 ((x.toNat:Int) - 32)),
   wd En 108 (sv h.nx 0 N N) (iv (i:Int))=some (pv h.nx (0+i * 1)),
   SV (h.fh.alloc (zT L)) 5 h.nx (0+i * 1) (.int .u8 ((x.toNat:Int) - 32)) (h.fh.alloc (zaS L i x)),
   WR ((i:Int)+1),
   sv h.nx 0 N N=sv h.nx 0 N N,
   iv ((i:Int)+1)=iv ((i:Int)+1)],.normal,h.fh.alloc (zaS L i x)) by kernel_rfl)
  ⟨a0,qj (e:=5) (by kernel_rfl) (by kernel_rfl) (by first|omega|(simp at *;omega)),zG (zb _ _) (by kernel_rfl) (by rw[Nat.zero_add,Nat.mul_one];exact ut _hx),a1,qj (e:=5) (by kernel_rfl) (by kernel_rfl) (by first|omega|(simp at *;omega)),zG (zb _ _) (by kernel_rfl) (by rw[Nat.zero_add,Nat.mul_one];exact ut _hx),a2,qj (e:=5) (by kernel_rfl) (by kernel_rfl) (by first|omega|(simp at *;omega)),zG (zb _ _) (by kernel_rfl) (by rw[Nat.zero_add,Nat.mul_one];exact ut _hx),zeh (by first|omega|(simp at *;omega)) (by first|omega|(simp at *;omega)),qj (e:=5) (by kernel_rfl) (by kernel_rfl) (by first|omega|(simp at *;omega)),a3,uV (by first|omega|(simp at *;omega)) (by first|omega|(simp at *;omega)),rfl,rfl,trivial⟩
theorem zp6(a0:decide ((i:Int) < N)=false):Bd n 33 [1,1,0,1,0,0] Tryz.f148 (zgj h N i) (h.fh.alloc (zT L)) (.exit 0) [(3,sv h.nx 0 N N)] (h.fh.alloc (zT L)):=
 bdF (kZ (h.fh.alloc (zT L))) [yF a0,.z 0]
theorem zvo(_hs:s.data.toList.length < 140737488355328)(a0:Lf n 33 [1,1,0,1,0,0] Tryz.f148 [(0,.string s),(2,.string ⟨#[]⟩),(5,.string s),(6,sv h.nx 0 s.data.toList.length s.data.toList.length),(3,sv h.nx 0 s.data.toList.length s.data.toList.length),(4,iv 0)] (h.fh.alloc (zer s)) (.exit 0) [(3,sv h.nx 0 N N)] (h.fh.alloc (zT L)))(a1:conv En (h.fh.alloc (zT L)) 108 9 (sv h.nx 0 N N)=some (.string ⟨⟨L⟩⟩)):Fn n 148 [.string s] h (.string ⟨⟨L⟩⟩) (h.fh.alloc (zT L)):=
 fnV (kZ h) [.x [.o (fun k=>sv k 0 s.data.toList.length s.data.toList.length) (zer s)] fun _=>[⟨zdL s=some (fun k=>sv k 0 s.data.toList.length s.data.toList.length,(zer s)),zdK _ (by omega)⟩],.a 5 (byC s.data.toList) 1 false,yS a0 (kZ (h.fh.alloc (zT L))),yE a1,.z 0]
end
noncomputable section
abbrev zmy(s:BA)(i:Nat):List (Nat×Value):=[(0,.string s),(1,.func (.func 218) #[] #[]),(5,iv (i:Int))]
abbrev zmx(s:BA)(i:Nat):List (Nat×Value):=[(0,.string s),(1,.func (.func 220) #[] #[]),(5,iv (i:Int))]
variable (h:Heap) (s:BA) (m:Int) (i:Nat) (k:Int) (n:Nat)
theorem zkV(_h1:i < s.data.toList.length)(_h2:s.data.toList.length < 4611686018427387904)(a0:decide ((i:Int) < s.data.toList.length)=true)(a1:Pu n 196 [.int .u8 (bAt s (i:Int):Int)] (iv k) h)(a2:Pu n 218 [iv k] (.bool true) h):Bd n 21 [1,1,0,0,0] Tryz.f217 (zmy s i) h .normal [(0,.string s),(1,.func (.func 218) #[] #[]),(5,iv ((i:Int)+1))] h:=
 bdF (kZ h) [yT a0,yI 9 s (i:Int),yP a1,yP a2,yW ((i:Int)+1),.z 0]
theorem zjb(_h1:i < s.data.toList.length)(_h2:s.data.toList.length < 4611686018427387904)(a0:decide ((i:Int) < s.data.toList.length)=true)(a1:Pu n 196 [.int .u8 (bAt s (i:Int):Int)] (iv k) h)(a2:Pu n 218 [iv k] (.bool false) h):Bd n 21 [1,1,0,0,0] Tryz.f217 (zmy s i) h (.exit 0) [(5,iv (i:Int))] h:=
 bdF (kZ h) [yT a0,yI 9 s (i:Int),yP a1,yP a2,.z 0]
theorem zjd(a0:decide ((i:Int) < s.data.toList.length)=false):Bd n 21 [1,1,0,0,0] Tryz.f217 (zmy s i) h (.exit 0) [(5,iv (i:Int))] h:=
 bdF (kZ h) [yF a0,.z 0]
theorem zne(a0:Lf n 21 [1,1,0,0,0] Tryz.f217 [(0,.string s),(1,.func (.func 218) #[] #[]),(4,iv 0),(5,iv 0)] h.fh (.exit 0) [(5,iv m)] h.fh):Fn n 217 [.string s,.func (.func 218) #[] #[]] h (iv m) h.fh:=
 fnV (kZ h) [yS a0 (kZ h.fh),.z 0]
theorem zkU(_h1:i < s.data.toList.length)(_h2:s.data.toList.length < 4611686018427387904)(a0:decide ((i:Int) < s.data.toList.length)=true)(a1:Pu n 196 [.int .u8 (bAt s (i:Int):Int)] (iv k) h)(a2:Pu n 220 [iv k] (.bool true) h):Bd n 21 [1,1,0,0,0] Tryz.f217 (zmx s i) h .normal [(0,.string s),(1,.func (.func 220) #[] #[]),(5,iv ((i:Int)+1))] h:=
 bdF (kZ h) [yT a0,yI 9 s (i:Int),yP a1,yP a2,yW ((i:Int)+1),.z 0]
theorem zi8(_h1:i < s.data.toList.length)(_h2:s.data.toList.length < 4611686018427387904)(a0:decide ((i:Int) < s.data.toList.length)=true)(a1:Pu n 196 [.int .u8 (bAt s (i:Int):Int)] (iv k) h)(a2:Pu n 220 [iv k] (.bool false) h):Bd n 21 [1,1,0,0,0] Tryz.f217 (zmx s i) h (.exit 0) [(5,iv (i:Int))] h:=
 bdF (kZ h) [yT a0,yI 9 s (i:Int),yP a1,yP a2,.z 0]
theorem zja(a0:decide ((i:Int) < s.data.toList.length)=false):Bd n 21 [1,1,0,0,0] Tryz.f217 (zmx s i) h (.exit 0) [(5,iv (i:Int))] h:=
 bdF (kZ h) [yF a0,.z 0]
theorem znd(a0:Lf n 21 [1,1,0,0,0] Tryz.f217 [(0,.string s),(1,.func (.func 220) #[] #[]),(4,iv 0),(5,iv 0)] h.fh (.exit 0) [(5,iv m)] h.fh):Fn n 217 [.string s,.func (.func 220) #[] #[]] h (iv m) h.fh:=
 fnV (kZ h) [yS a0 (kZ h.fh),.z 0]
end
def kdV(v:Value):Nat:=match v with| .int .i64 (.ofNat n)=>n|_=>99
def kd(b:UInt8):Nat:=kdV (zA (b.toNat:Int))
theorem zof:((List.range 256).all fun n=>match zA (n:Int) with| .int .i64 (.ofNat k)=>Nat.blt k 6|_=>false)=true:=by kernel_rfl
theorem ve{p:Nat→Bool}{n:Nat}(h:(List.range n).all p=true)(k:Nat)(hk:k < n):p k=true:=List.all_eq_true.1 h k (List.mem_range.2 hk)
theorem vu(b:UInt8):b.toNat < 256:=b.toNat_lt
theorem zre(b:UInt8):zA (b.toNat:Int)= .int .i64 (kd b:Int):=by
 have:=ve zof b.toNat (vu b)
 unfold kd
 split at this
 ·rename_i k h;rw[h];rfl
 ·simp at this
theorem zd2(b:UInt8)(h:Heap)(n:Nat)(hn:3≤n):RD n 196 [.int .u8 (b.toNat:Int)] h=some (.int .i64 (kd b:Int),h):=by
 rw[← zre];exact zoe _ h n hn
theorem wD(s:BA)(i:Nat)(b:UInt8)(r:Bsy)(h:s.data.toList.drop i=b::r):bAt s (i:Int)=b.toNat:=by
 unfold bAt
 rw[Int.toNat_natCast,h];rfl
theorem jt{s:BA}{i:Nat}{b:UInt8}{r:Bsy}(h:s.data.toList.drop i=b::r):i < s.data.toList.length:=by
 rcases Nat.lt_or_ge i s.data.toList.length with hl|hl
 ·exact hl
 ·rw[List.drop_eq_nil_of_le hl] at h;simp at h
theorem wN{l:Bsy}{i:Nat}{b:UInt8}{r:Bsy}(h:l.drop i=b::r):l.drop (i+1)=r:=by
 rw[← List.drop_drop,h];rfl
theorem ji{l:Bsy}{i:Nat}(h:l.drop i=[]):l.length≤i:=List.drop_eq_nil_iff.1 h
def isD(b:UInt8):Bool:=kd b==2
def isW(b:UInt8):Bool:=kd b==3 || kd b==2
theorem zqR(b:UInt8):zb5 (kd b:Int)= .bool (isD b):=by
 unfold zb5 isD
 cases h:kd b==2 with
 |true=>
  have:kd b=2:=by simpa using h
  rw[this];rfl
 |false=>
  have:((kd b:Int)==2)=false:=by
   have:¬ kd b=2:=by simpa using h
   simp only[beq_eq_false_iff_ne,ne_eq];omega
  rw[this];rfl
theorem zco(a k:Nat):((a:Int)==(k:Int))=(a==k):=by
 rw[Bool.eq_iff_iff];simp only[beq_iff_eq];omega
theorem zqQ(b:UInt8):za4 (kd b:Int)= .bool (isW b):=by
 unfold za4 isW
 have e3:((kd b:Int)==3)=(kd b==3):=zco (kd b) 3
 have e2:((kd b:Int)==2)=(kd b==2):=zco (kd b) 2
 rw[e3,e2]
 cases kd b==3 <;>cases kd b==2 <;>rfl
section
variable (h:Heap) (s:BA) (n:Nat) (hn:3≤n) (hs:s.data.toList.length < 4611686018427387904)
include hn hs
theorem zht:∀ (r:Bsy) (i:Nat),s.data.toList.drop i=r→Loops En (RD n) 21 18446744073709551616 (sub [1,1,0,0,0] (zp Tryz.f217)) [(0,.string s),(1,.func (.func 218) #[] #[]),(5,.int .i64 (i:Int))] h (.exit 0) [(5,.int .i64 ((i+(r.takeWhile isD).length:Nat):Int))] h ((r.takeWhile isD).length+1):=by
 intro r
 induction r with
 |nil=>
  intro i hi
  have:=ji hi
  exact .out (zjd h s i n (by simp only[decide_eq_false_iff_not];omega))
 |cons b r ih=>
  intro i hi
  have hlt:=jt hi
  have hb:=wD s i b r hi
  have hk:RD n 196 [.int .u8 (bAt s (i:Int):Int)] h=some (.int .i64 (kd b:Int),h):=by rw[hb];exact zd2 b h n hn
  have h1:=znM (kd b:Int) h n (by omega)
  rw[zqR] at h1
  cases hd:isD b with
  |true=>
   rw[hd] at h1
   have hr:=ih (i+1) (wN hi)
   have:=Loops.on (zkV h s i (kd b:Int) n hlt hs (by simp only[decide_eq_true_eq];omega) hk h1) hr
   rw[List.takeWhile_cons,if_pos hd,lC]
   rw[show i+((r.takeWhile isD).length+1)=i+1+(r.takeWhile isD).length by omega]
   exact this
  |false=>
   rw[hd] at h1
   rw[List.takeWhile_cons,if_neg (by simp[hd])]
   exact .out (zjb h s i (kd b:Int) n hlt hs (by simp only[decide_eq_true_eq];omega) hk h1)
theorem zhs:∀ (r:Bsy) (i:Nat),s.data.toList.drop i=r→Loops En (RD n) 21 18446744073709551616 (sub [1,1,0,0,0] (zp Tryz.f217)) [(0,.string s),(1,.func (.func 220) #[] #[]),(5,.int .i64 (i:Int))] h (.exit 0) [(5,.int .i64 ((i+(r.takeWhile isW).length:Nat):Int))] h ((r.takeWhile isW).length+1):=by
 intro r
 induction r with
 |nil=>
  intro i hi
  have:=ji hi
  exact .out (zja h s i n (by simp only[decide_eq_false_iff_not];omega))
 |cons b r ih=>
  intro i hi
  have hlt:=jt hi
  have hb:=wD s i b r hi
  have hk:RD n 196 [.int .u8 (bAt s (i:Int):Int)] h=some (.int .i64 (kd b:Int),h):=by rw[hb];exact zd2 b h n hn
  have h1:=znL (kd b:Int) h n (by omega)
  rw[zqQ] at h1
  cases hd:isW b with
  |true=>
   rw[hd] at h1
   have hr:=ih (i+1) (wN hi)
   have:=Loops.on (zkU h s i (kd b:Int) n hlt hs (by simp only[decide_eq_true_eq];omega) hk h1) hr
   rw[List.takeWhile_cons,if_pos hd,lC]
   rw[show i+((r.takeWhile isW).length+1)=i+1+(r.takeWhile isW).length by omega]
   exact this
  |false=>
   rw[hd] at h1
   rw[List.takeWhile_cons,if_neg (by simp[hd])]
   exact .out (zi8 h s i (kd b:Int) n hlt hs (by simp only[decide_eq_true_eq];omega) hk h1)
end
theorem zjc(s:BA)(h:Heap)(n:Nat)(hn:4≤n)(hs:s.data.toList.length≤4000):RD n 217 [.string s,.func (.func 218) #[] #[]] h=some (.int .i64 ((s.data.toList.takeWhile isD).length:Int),h):=by
 obtain⟨m,rfl⟩:=zs_ n
 have hl:=zht (Heap.fh h) s m (by omega) (by omega) s.data.toList 0 rfl
 have ht:(s.data.toList.takeWhile isD).length≤s.data.toList.length:=(List.takeWhile_prefix _).length_le
 rw[Nat.zero_add] at hl
 rw[zne h s _ m (hl.fact (by omega) rfl ⟨rfl,rfl,rfl,trivial⟩),uq rfl]
theorem zi9(s:BA)(h:Heap)(n:Nat)(hn:4≤n)(hs:s.data.toList.length≤4000):RD n 217 [.string s,.func (.func 220) #[] #[]] h=some (.int .i64 ((s.data.toList.takeWhile isW).length:Int),h):=by
 obtain⟨m,rfl⟩:=zs_ n
 have hl:=zhs (Heap.fh h) s m (by omega) (by omega) s.data.toList 0 rfl
 have ht:(s.data.toList.takeWhile isW).length≤s.data.toList.length:=(List.takeWhile_prefix _).length_le
 rw[Nat.zero_add] at hl
 rw[znd h s _ m (hl.fact (by omega) rfl ⟨rfl,rfl,rfl,trivial⟩),uq rfl]
end Go.PanE
