/-
 Part 39 of the proof of Rows.DumpLinesCardSaid. No conditions.
-/
import Derived.Test.YtihkphfmnnndfaaGreatDoorT38
namespace Go.PanE
open Go.Proofs
def WSt(h:Heap)(B:Nat)(l:Bsy):Prop:=
 B < h.nx∧((l=[]∧h.get B=some (.row 228 [.pointer none,.slice none 0 0] 0 false))∨
  ∃ b,B < b∧h.get B=some (.row 228 [pv B 0,sv b 0 l.length l.length] 0 false)∧h.get b=some (.row 5 (byC l) 1 false)∧l≠[])
theorem zuz{h:Heap}{B:Nat}{x:Value}(n:Nat)(hB:h.get B=some (.row 228 [.pointer none,x] 0 false)):RD (n+1) 190 [pv B 0] h=some (.tuple #[],pt h B 228 [pv B 0,x]):=
 show zB En orcD (drawn En) 18446744073709551616 (n+1) 190 _ h=_ by
 simp only[zB,zbo,yu,hB,Nat.beq_refl,Bool.or_true,cond_true,jd,uG,jh,lC,lN,Nat.zero_lt_succ,if_true,List.set_cons_zero]
theorem zuy{h:Heap}{B:Nat}{x:Value}(n:Nat)(hB:h.get B=some (.row 228 [pv B 0,x] 0 false)):RD (n+1) 190 [pv B 0] h=some (.tuple #[],h):=by
 show zB En orcD (drawn En) 18446744073709551616 (n+1) 190 _ h=_
 simp only[zB,zbo,yu,hB,Nat.beq_refl,cond_true]
theorem zhN(h:Heap)(s:Bsy):zY h 1 none (.string ⟨⟨s⟩⟩)=some (byC s):=rfl
theorem zpg{h:Heap}(s:Bsy)(hs:s≠[])(hl:s.length≤1000000000):zu En h #[108,9] (.slice none 0 0) (.string ⟨⟨s⟩⟩)=some (sv h.nx 0 s.length s.length,h.alloc (.row 5 (byC s) 1 false)):=by
 have h0:0 < s.length:=List.length_pos_iff.2 hs
 obtain⟨z,hz,hzs⟩:=qV.zero
 have c1:(vI .string || Nat.beq 1 0 || !Nat.beq (byC s).length (s.length * 1) || !Nat.beq z.cells.size 1)=false:=by
  rw[wg,Nat.mul_one,hzs,Nat.beq_refl];rfl
 unfold zu
 have u9:En.und 9=some .string:=by kernel_rfl
 simp only[List.getElem?_toArray,List.getElem?_cons_zero,List.getElem?_cons_succ,qV.und,u9,qV.size,qV.bytes,hz,jA,zhN,c1,Bool.false_eq_true,if_false]
 have h2:Nat.beq s.length 0=false:=T.beq_false (by omega)
 have h3:Nat.ble s.length 0=false:=by
  cases e:Nat.ble s.length 0 with
  |false=>rfl
  |true=>rw[Nat.ble_eq] at e;omega
 have h4:Nat.ble ((2 * s.length+1000) * (1+1)) 281474976710656=true:=by rw[Nat.ble_eq];omega
 simp only[Nat.zero_add,h2,h3,h4,Bool.false_eq_true,if_false,if_true]
theorem zml{h:Heap}{b:Nat}(l s:Bsy)(hb:h.get b=some (.row 5 (byC l) 1 false))(hs:s≠[])(hl:l.length+s.length≤1000000000):zu En h #[108,9] (sv b 0 l.length l.length) (.string ⟨⟨s⟩⟩)=some (sv h.nx 0 (l.length+s.length) (l.length+s.length),(h.kill b).alloc (.row 5 (byC (l++s)) 1 false)):=by
 have h0:0 < s.length:=List.length_pos_iff.2 hs
 obtain⟨z,hz,hzs⟩:=qV.zero
 have c1:(vI .string || Nat.beq 1 0 || !Nat.beq (byC s).length (s.length * 1) || !Nat.beq z.cells.size 1)=false:=by
  rw[wg,Nat.mul_one,hzs,Nat.beq_refl];rfl
 unfold zu
 have u9:En.und 9=some .string:=by kernel_rfl
 simp only[List.getElem?_toArray,List.getElem?_cons_zero,List.getElem?_cons_succ,qV.und,u9,qV.size,qV.bytes,hz,jA,zhN,c1,Bool.false_eq_true,if_false]
 have h2:Nat.beq s.length 0=false:=T.beq_false (by omega)
 have h3:Nat.ble (l.length+s.length) l.length=false:=by
  cases e:Nat.ble (l.length+s.length) l.length with
  |false=>rfl
  |true=>rw[Nat.ble_eq] at e;omega
 have h4:Nat.ble ((2 * (l.length+s.length)+1000) * (1+1)) 281474976710656=true:=by rw[Nat.ble_eq];omega
 have h5:jy En h 5 b 0 l.length=some true:=by
  unfold jy
  rw[hb,show En.size 5=some 1 from qV.size]
  simp only
  rw[if_neg (by omega)];simp only[if_true,Nat.zero_add,wg,Nat.mul_one,Nat.beq_refl]
 have h6:zY h 1 (some l.length) (sv b 0 l.length l.length)=some (byC l):=by
  simp only[zY,hb,Option.getD_some,List.drop_zero,Nat.mul_one]
  rw[List.take_of_length_le (by rw[wg];exact nL_ _),if_pos (by rw[wg];exact Nat.beq_refl _)]
 have h7:(Nat.beq 5 5 && (byC s).all jh && Nat.ble l.length l.length && Nat.beq 0 0)=true:=by
  have e1:(byC s).all jh=true:=by
   unfold byC;rw[List.all_map,List.all_eq_true];intro x _;rfl
  have:Nat.ble l.length l.length=true:=by rw[Nat.ble_eq];exact nL_ _
  rw[e1,this];rfl
 have h8:byC l++byC s=byC (l++s):=by simp[byC]
 simp only[h2,h3,h4,h5,h6,hb,h7,h8,Bool.false_eq_true,if_false,if_true]
def K72(h g:Heap):Prop:=∀ c cs,h.get c=some (.row 72 cs 0 false)→g.get c=some (.row 72 cs 0 false)
theorem K72.trans{h g f:Heap}(a:K72 h g)(b:K72 g f):K72 h f:=fun c cs e=>b c cs (a c cs e)
theorem K72.alloc(h:Heap)(o:AObj):K72 h (h.alloc o):=fun _ _ e=>(zm h o (za e)).trans e
theorem K72.put{h:Heap}{b:Nat}{o':AObj}(hb:h.get b=some o')(no:∀ cs,o'≠.row 72 cs 0 false)(o:AObj):K72 h (h.put b o):=fun _ cs e=>
 (zf _ _ _ _ (za hb) (by rintro rfl;exact no cs (Option.some.inj (hb.symm.trans e)))).trans e
theorem K72.kill{h:Heap}{b:Nat}{o':AObj}(hb:h.get b=some o')(no:∀ cs,o'≠.row 72 cs 0 false):K72 h (h.kill b):=fun _ cs e=>
 (zU _ (by rintro rfl;exact no cs (Option.some.inj (hb.symm.trans e)))).trans e
structure WO(h:Heap)(W:Nat)(l:Bsy)(h':Heap):Prop where
 st:WSt h' W l
 up:Up W h h'
 wm:h'.wm≤W
 kk:K72 h h'
theorem yi(h:Heap)(B:Nat)(l s:Bsy)(n:Nat)(hn:2≤n)(S:WSt h B l)(hs:s≠[])(hl:l.length+s.length≤1000000000):
  ∃ h',RD n 163 [pv B 0,.string ⟨⟨s⟩⟩] h=some (.tuple #[iv s.length,.nilIface],h')∧WO h B (l++s) h':=by
 obtain⟨m,rfl⟩:∃ m,n=m+1+1:=⟨n - 2,by omega⟩
 obtain⟨hlt,S⟩:=S
 have h0:0 < s.length:=List.length_pos_iff.2 hs
 have hne:l++s≠[]:=fun e=>hs (List.append_eq_nil_iff.1 e).2
 have key:∀ {g1 g2:Heap} {q:Nat} {sl:Value},Up B h.fh g2→K72 h g2→g1.get B=some (.row 228 [pv B 0,sl] 0 false)→g2.get B=some (.row 228 [pv B 0,sl] 0 false)→g2.get q=some (.row 5 (byC (l++s)) 1 false)→B < q→
   RD (m+1) 190 [pv B 0] h.fh=some (.tuple #[],g1)→zu En g1 #[108,9] sl (.string ⟨⟨s⟩⟩)=some (sv q 0 (l.length+s.length) (l.length+s.length),g2)→
   ∃ h',RD (m+1+1) 163 [pv B 0,.string ⟨⟨s⟩⟩] h=some (.tuple #[iv s.length,.nilIface],h')∧WO h B (l++s) h':=by
  intro g1 g2 q sl u kk b1 b2 gq hq cc ap
  have hB2:=za b2
  have u2:=u.trans (Up.put g2 (.row 228 [pv B 0,sv q 0 (l.length+s.length) (l.length+s.length)] 0 false) (nL_ _) hB2)
  have p:=zx1 h g1 g2 B q (l.length+s.length) ⟨⟨s⟩⟩ sl (m+1) b1 b2 cc ap
  unfold Fn at p
  rw[uo (by rw[ze];omega)] at p
  have uf:=u2.finish (v:=.tuple #[iv s.length,.nilIface]) (h:=h) (by omega)
  rw[uo (by rw[ze];omega)] at uf
  refine⟨_,p,⟨hB2,.inr ⟨q,hq,?_,?_,hne⟩⟩,uf,?_,?_⟩
  ·show(g2.put B _).get B=_
   rw[zi _ _ _ hB2,lA]
  ·show(g2.put B _).get q=_
   rw[zf _ _ _ _ hB2 (by omega)];exact gq
  ·show min h.wm (g2.put B _).wm≤B
   rw[ze];omega
  ·exact kk.trans (K72.put b2 (fun cs e=>by cases e) _)
 rcases S with⟨rfl,hB⟩|⟨b,hbB,hB,hb,_⟩
 ·have hB':h.fh.get B=some (.row 228 [.pointer none,.slice none 0 0] 0 false):=hB
  have g1:(pt h.fh B 228 [pv B 0,.slice none 0 0]).get B=some (.row 228 [pv B 0,.slice none 0 0] 0 false):=gP (h:=h.fh) hlt
  have ap:=zpg (h:=pt h.fh B 228 [pv B 0,.slice none 0 0]) s hs (by simpa using hl)
  have u:Up B h.fh ((pt h.fh B 228 [pv B 0,.slice none 0 0]).alloc (.row 5 (byC s) 1 false)):=(Up.put h.fh _ (nL_ _) hlt).trans (Up.alloc (pt h.fh B 228 [pv B 0,.slice none 0 0]) _ (by show B≤h.nx;omega))
  refine key (q:=h.nx) u ((K72.put (h:=h.fh) hB' (fun cs e=>by cases e) _).trans (K72.alloc _ _)) g1 ((zm (pt h.fh B 228 [pv B 0,.slice none 0 0]) _ hlt).trans g1) (by rw[List.nil_append];exact zb _ _) hlt (zuz m hB') ?_
  rw[lN,Nat.zero_add]
  exact ap
 ·have hB':h.fh.get B=some (.row 228 [pv B 0,sv b 0 l.length l.length] 0 false):=hB
  have hbl:b < h.nx:=za hb
  have ap:=zml (h:=h.fh) l s (show h.fh.get b=_ from hb) hs hl
  have u:Up B h.fh ((h.fh.kill b).alloc (.row 5 (byC (l++s)) 1 false)):=(Up.kill h.fh (by omega)).trans (Up.alloc (h.fh.kill b) _ (by rw[jb];show B≤h.nx;omega))
  refine key (q:=h.nx) u ((K72.kill (h:=h.fh) hb (fun cs e=>by cases e)).trans (K72.alloc _ _)) hB' ?_ (zb _ _) hlt (zuy m hB') ap
  rw[zm _ _ (by rw[jb];exact hlt),zU _ (by omega)]
  exact hB'
theorem zku(h:Heap)(B:Nat)(l:Bsy)(n:Nat)(hn:1≤n)(S:WSt h B l)(hl:l≠[]):RD n 131 [pv B 0] h=some (iv l.length,h):=by
 obtain⟨m,rfl⟩:=zs_ n
 rcases S.2 with⟨e,_⟩|⟨b,hbB,hB,hb,_⟩
 ·exact absurd e hl
 ·exact(zyc h B b l.length m hB).trans (congrArg some (uq rfl))
theorem zgl(h:Heap)(B k:Nat)(l:Bsy)(n:Nat)(hn:1≤n)(S:WSt h B l)(hk:k≤B)(hl:l.length≤1000000000):
  ∃ h',RD n 132 [pv B 0] h=some (.string ⟨⟨l⟩⟩,h')∧Up k h h':=by
 obtain⟨m,rfl⟩:=zs_ n
 obtain⟨hlt,S⟩:=S
 rcases S with⟨rfl,hB⟩|⟨b,hbB,hB,hb,hne⟩
 ·refine⟨h,?_,Up.refl _ _⟩
  show zB En orcD (drawn En) 18446744073709551616 (m+1) 132 _ h=_
  simp only[zB,zbp,yv,hB]
 ·refine⟨h.put b (.row 5 (byC l) 1 true),?_,Up.put _ _ (by omega) (za hb)⟩
  have h0:0 < l.length:=List.length_pos_iff.2 hne
  have c:(Nat.blt 0 l.length && Nat.ble l.length l.length && Nat.beq ((byC l).take l.length).length l.length && Nat.ble l.length 140737488355328)=true:=by
   have e1:Nat.blt 0 l.length=true:=by rw[Nat.blt_eq];exact h0
   have e2:Nat.ble l.length l.length=true:=by rw[Nat.ble_eq];exact nL_ _
   have e3:Nat.ble l.length 140737488355328=true:=by rw[Nat.ble_eq];omega
   have e4:Nat.beq ((byC l).take l.length).length l.length=true:=by
    rw[List.take_of_length_le (by rw[wg];omega),wg];exact Nat.beq_refl _
   rw[e1,e2,e3,e4];rfl
  show zB En orcD (drawn En) 18446744073709551616 (m+1) 132 _ h=_
  simp only[zB,zbp,yv,hB,hb,c,cond_true]
  rw[List.take_of_length_le (by rw[wg];exact nL_ _),zeb]
def hk(k:Int)(x:Hd):Hd:=⟨k,x.a,x.b,x.t,x.r0,x.c0,x.r1,x.c1,x.nm⟩
def srL(k a b:Int)(t:BA)(y:Hd)(r:OA)(l:Nat):Vs:=[iv k,iv a,iv b,.string t,iv y.k,iv y.a,iv y.b,.string y.t,iv y.r0,iv y.c0,iv y.r1,iv y.c1,.string y.nm,.slice r l l]
abbrev zar:Vs:=wq.map fun s=>.string ⟨⟨s⟩⟩
theorem bsz(l:Bsy):(⟨⟨l⟩⟩:BA).size=l.length:=rfl
abbrev yG(x y:BA)(h:x.size+y.size≤9223372036854775807:=by first|omega|(simp only[ByteArray.size_append,bsz,lC,lN] at *;omega)):Stp:=.x [.v (.string (x++y))] fun _=>[⟨jn .add x y=some (.string (x++y)),jV h⟩]
theorem fpT{n:Nat}{f:FuncId}{args:Vs}{h:Heap}{v:Value}(S:KS)(st:List Stp)(e1:S.h=S.base:=by rfl)(e2:S.pu=[]:=by rfl)(e:((kOf (run (unp v) st [] (S.fh e1 e2)) S).h.wm,zeJ (unp v),zbA En 18446744073709551616 orcD n f (gOf (run (unp v) st [] (S.fh e1 e2))) args h (unp v))=(h.nx,v,some (pOf (run (unp v) st [] (S.fh e1 e2)),(kOf (run (unp v) st [] (S.fh e1 e2)) S).h)):=by kernel_rfl)(hl:zM h.nx 5 v=true:=by rfl):
  RD (n+1) f args h=some (v,h):=by
 have h1:=Prod.mk.inj e
 have h2:=Prod.mk.inj h1.2
 have:=uS _ _ _ h2.2 (yq _)
 rw[h2.1] at this
 exact this.trans (congrArg some (ye (Nat.le_of_eq h1.1.symm) hl))
theorem GT.args{y:Hd}{ts:List Tr}(g:GT (.node y ts)):(∀ t∈ts,GT t)∧ts.length≤10:=by
 cases g <;>simp_all
theorem ux{t:Tr}:∀ {l:List Tr},t∈l→t.depth≤zx l
 |u::l,h=>by
  unfold zx
  rcases List.mem_cons.1 h with rfl|h
  ·omega
  ·have:=ux h;omega
theorem zcV{t:Tr}:∀ {l:List Tr},t∈l→t.size≤zo l
 |u::l,h=>by
  unfold zo
  rcases List.mem_cons.1 h with rfl|h
  ·omega
  ·have:=zcV h;omega
noncomputable section
abbrev znO(ib N:Nat)(ro:OA)(lo i:Nat)(k r c:Int)(s t:BA)(a:Nat):List (Nat×Value):=[(0,sv ib 0 N N),(4,.slice ro lo lo),(5,iv (i:Int)),(10,iv (i:Int)),(11,sv ib 0 N N),(12,iv N),(13,.bool true),(16,sv ib 0 N N),(17,iv (i:Int)),(18,pv ib (0+i * 8)),(19,pv ib (0+i * 8)),(20,iv k),(21,.bool false),(22,.bool false),(23,sv ib 0 N N),(24,iv (i:Int)),(25,pv ib (0+i * 8)),(26,pv ib ((0+i * 8)+1)),(27,.agg #[iv r,iv c]),(28,.bool true),(29,.bool false),(30,.bool false),(32,sv ib 0 N N),(33,iv (i:Int)),(34,pv ib (0+i * 8)),(35,pv ib ((0+i * 8)+7)),(36,.string s),(37,.tuple #[.string t,iv (a:Int),iv 0]),(31,.tuple #[.string t,iv (a:Int),iv 0]),(38,.string t),(39,iv (a:Int)),(40,iv 0),(6,.string t),(7,iv (a:Int)),(8,iv 0),(41,iv 0),(42,.bool false),(9,iv 0)]
abbrev jp:Value:=.agg #[iv 0,iv 0,.string ⟨#[]⟩]
abbrev ud:Value:=.agg #[iv 0,iv 0,iv 0,iv 0]
abbrev zb7(h:Heap)(s:BA):Heap:=al h.fh 80 (srL 1 3 0 s hdZ none 0)
abbrev zeO(ib N:Nat)(ro:OA)(lo i:Nat):List (Nat×Value):=[(0,sv ib 0 N N),(4,.slice ro lo lo),(5,iv (i:Int))]
abbrev ztK(rl:OA)(N:Nat)(rv:OA)(M:Nat):List (Nat×Value):=[(0,.slice rl N N),(1,.slice rv M M),(4,.bool false),(11,.slice rl N N),(12,.bool true),(13,.bool false),(14,.bool false),(15,.slice rv M M),(16,iv M),(17,.bool false),(18,.bool false),(5,iv 0)]
abbrev zeN:List (Nat×Value):=[(2,.slice none 0 0),(3,iv 11)]
abbrev zjD(h1:Heap):Heap:=al h1 80 (srL 0 0 0 ⟨#[]⟩ hdZ none 0)
abbrev znN(ib N:Nat)(ro:OA)(lo i:Nat)(t:BA)(j:Nat):List (Nat×Value):=[(0,sv ib 0 N N),(4,.slice ro lo lo),(5,iv (i:Int)),(6,.string t),(9,iv (j:Int))]
abbrev zfK(s:BA):AObj:=.row 80 (srL 1 3 0 s hdZ none 0) 0 false
abbrev zpM(ra:OA)(N:Nat)(rb:OA):List (Nat×Value):=[(0,.slice ra N N),(1,.slice rb N N),(4,.bool false),(6,.slice ra N N),(7,iv N),(8,.slice rb N N),(9,iv N),(10,.bool false),(5,iv 0)]
abbrev zjF(s:BA):Value:=.tuple #[.string (⟨#[39]⟩++s),iv 0]
abbrev zfJ(s:BA):Value:=.agg #[iv 3,iv 0,.string s]
abbrev zfI(s:BA):Vs:=[.agg #[iv 3,iv 0,.string s]]
abbrev zjE(ib N:Nat)(ro:OA)(lo i:Nat)(t:BA):List (Nat×Value):=[(0,sv ib 0 N N),(4,.slice ro lo lo),(5,iv (i:Int)),(6,.string t)]
variable (h:Heap) (ab bb:Nat) (hL:Heap) (xr:OA) (h1 h2:Heap) (ib N M vb i lo l2 j n:Nat) (b:Int) (ra rb rl rv ro r2:OA) (k r c i1 i2 i3 i4:Int) (s t:BA) (y:Hd) (yr:OA) (yn a d:Nat)
theorem zyn(a0:eqV 27 jp jp=some (.bool true))(a1:eqV 43 ud ud=some (.bool true)):Pu (n+1) 40 [srV 0 0 0 ⟨#[]⟩ hdZ none 0] (.tuple #[.string ⟨#[]⟩,iv 0]) h:=
 fpT (kZ h) [aS 80 (srL 0 0 0 ⟨#[]⟩ hdZ none 0),.g 0 27 1 3,yE a0,.l 0 3 4,bT,.g 0 27 5 3,yE a0,.g 0 43 8 4,yE a1,.l 0 9 12,bT,.l 0 70 13,bT,.l 0 3 0,bT,.z 0]
theorem zyi(a0:eqV 27 (.agg #[iv 2,iv b,.string ⟨#[]⟩]) jp=some (.bool false))(a1:eqV 27 jp jp=some (.bool true))(a2:eqV 43 ud ud=some (.bool true))(a3:Pu n 47 [.agg #[iv 2,iv b,.string ⟨#[]⟩]] (.bool true) (al h.fh 80 (srL 1 2 b ⟨#[]⟩ hdZ none 0)))(a4:Pu n 26 [.agg #[iv 2,iv b,.string ⟨#[]⟩]] (.string t) (al h.fh 80 (srL 1 2 b ⟨#[]⟩ hdZ none 0))):Pu (n+1) 40 [srV 1 2 b ⟨#[]⟩ hdZ none 0] (.tuple #[.string t,iv 0]) h:=
 fpT (kZ h) [aS 80 (srL 1 2 b ⟨#[]⟩ hdZ none 0),.g 0 27 1 3,yE a0,.l 0 3 4,bT,.g 0 27 5 3,yE a1,.g 0 43 8 4,yE a2,.l 0 9 12,bT,.l 0 70 13,bT,.l 0 3 0,bF,bT,.g 0 27 1 3,yP a3,.l 0 3 1,bF,.l 0 3 1,bF,.l 0 3 1,bT,.g 0 27 1 3,yP a4,.z 0]
theorem zym(a0:eqV 27 (.agg #[iv 1,iv b,.string ⟨#[]⟩]) jp=some (.bool false))(a1:eqV 27 jp jp=some (.bool true))(a2:eqV 43 ud ud=some (.bool true))(a3:Pu n 47 [.agg #[iv 1,iv b,.string ⟨#[]⟩]] (.bool true) (al h.fh 80 (srL 1 1 b ⟨#[]⟩ hdZ none 0)))(a4:Pu n 26 [.agg #[iv 1,iv b,.string ⟨#[]⟩]] (.string t) (al h.fh 80 (srL 1 1 b ⟨#[]⟩ hdZ none 0))):Pu (n+1) 40 [srV 1 1 b ⟨#[]⟩ hdZ none 0] (.tuple #[.string t,iv 0]) h:=
 fpT (kZ h) [aS 80 (srL 1 1 b ⟨#[]⟩ hdZ none 0),.g 0 27 1 3,yE a0,.l 0 3 4,bT,.g 0 27 5 3,yE a1,.g 0 43 8 4,yE a2,.l 0 9 12,bT,.l 0 70 13,bT,.l 0 3 0,bF,bT,.g 0 27 1 3,yP a3,.l 0 3 1,bF,.l 0 3 1,bF,.l 0 3 1,bT,.g 0 27 1 3,yP a4,.z 0]
theorem zyg(c n:Nat)(sk sa sb:Int)(st:BA)(y:Hd)(yr:OA)(yn:Nat)(g1_:h1.get h.nx=some (zfK s))(a0:eqV 27 (zfJ s) jp=some (.bool false))(a1:eqV 27 jp jp=some (.bool true))(a2:eqV 43 ud ud=some (.bool true))(a3:Pu n 47 (zfI s) (.bool true) (zb7 h s))(a4:RD n 31 [.string s] (zb7 h s)=some (.tuple #[srV sk sa sb st y yr yn,iv (a:Int),iv (c:Int)],h1))(a5:((c:Int)==0)=true)(a6:((sk:Int)==1)=true)(a7:Pu n 65 [.agg #[iv sa,iv sb,.string st],.agg #[iv 3,iv 0,.string s]] (.bool true) (pt (zjD h1) h1.nx 80 (srL sk sa sb st y yr yn))):∃ H,Fn n 40 [srV 1 3 0 s hdZ none 0] h (.tuple #[.string s,iv 0]) H∧tl0 h1 h1.wm (h1.nx+1) H:=
 exT (kZ h) [aS 80 (srL 1 3 0 s hdZ none 0),.g 0 27 1 3,yE a0,.l 0 3 4,bT,.g 0 27 5 3,yE a1,.g 0 43 8 4,yE a2,.l 0 9 12,bT,.l 0 70 13,bT,.l 0 3 0,bF,bT,.g 0 27 1 3,yP a3,.l 0 3 1,bF,.l 0 3 1,bF,.l 0 3 1,bF,.l 0 9 3,yC a4 (kI (ko g1_)),aS 80 (srL 0 0 0 ⟨#[]⟩ hdZ none 0),.w 1 80 0 (srV sk sa sb st y yr yn),yT a5,.l 1 3 0,yT a6,.g 1 27 1 3,.g 0 27 1 3,yP a7,.l 0 9 3,.z 0] []
theorem zmD(c n:Nat)(sk sa sb:Int)(st:BA)(y:Hd)(yr:OA)(yn:Nat)(g1_:h1.get h.nx=some (zfK s))(_h:s.size≤1000)(a0:eqV 27 (zfJ s) jp=some (.bool false))(a1:eqV 27 jp jp=some (.bool true))(a2:eqV 43 ud ud=some (.bool true))(a3:Pu n 47 (zfI s) (.bool true) (zb7 h s))(a4:RD n 31 [.string s] (zb7 h s)=some (.tuple #[srV sk sa sb st y yr yn,iv (a:Int),iv (c:Int)],h1))(a5:((c:Int)==0)=true)(a6:((sk:Int)==1)=true)(a7:Pu n 65 [.agg #[iv sa,iv sb,.string st],.agg #[iv 3,iv 0,.string s]] (.bool false) (pt (zjD h1) h1.nx 80 (srL sk sa sb st y yr yn))):∃ H,Fn n 40 [srV 1 3 0 s hdZ none 0] h (zjF s) H∧tl0 h1 h1.wm (h1.nx+1) H:=
 exT (kZ h) [aS 80 (srL 1 3 0 s hdZ none 0),.g 0 27 1 3,yE a0,.l 0 3 4,bT,.g 0 27 5 3,yE a1,.g 0 43 8 4,yE a2,.l 0 9 12,bT,.l 0 70 13,bT,.l 0 3 0,bF,bT,.g 0 27 1 3,yP a3,.l 0 3 1,bF,.l 0 3 1,bF,.l 0 3 1,bF,.l 0 9 3,yC a4 (kI (ko g1_)),aS 80 (srL 0 0 0 ⟨#[]⟩ hdZ none 0),.w 1 80 0 (srV sk sa sb st y yr yn),yT a5,.l 1 3 0,yT a6,.g 1 27 1 3,.g 0 27 1 3,yP a7,.l 0 9 3,yG ⟨#[39]⟩ s,.z 0] []
theorem zsq(c n:Nat)(sk sa sb:Int)(st:BA)(y:Hd)(yr:OA)(yn:Nat)(g1_:h1.get h.nx=some (zfK s))(_h:s.size≤1000)(a0:eqV 27 (zfJ s) jp=some (.bool false))(a1:eqV 27 jp jp=some (.bool true))(a2:eqV 43 ud ud=some (.bool true))(a3:Pu n 47 (zfI s) (.bool true) (zb7 h s))(a4:RD n 31 [.string s] (zb7 h s)=some (.tuple #[srV sk sa sb st y yr yn,iv (a:Int),iv (c:Int)],h1))(a5:((c:Int)==0)=true)(a6:((sk:Int)==1)=false):∃ H,Fn n 40 [srV 1 3 0 s hdZ none 0] h (zjF s) H∧tl0 h1 h1.wm (h1.nx+1) H:=
 exT (kZ h) [aS 80 (srL 1 3 0 s hdZ none 0),.g 0 27 1 3,yE a0,.l 0 3 4,bT,.g 0 27 5 3,yE a1,.g 0 43 8 4,yE a2,.l 0 9 12,bT,.l 0 70 13,bT,.l 0 3 0,bF,bT,.g 0 27 1 3,yP a3,.l 0 3 1,bF,.l 0 3 1,bF,.l 0 3 1,bF,.l 0 9 3,yC a4 (kI (ko g1_)),aS 80 (srL 0 0 0 ⟨#[]⟩ hdZ none 0),.w 1 80 0 (srV sk sa sb st y yr yn),yT a5,.l 1 3 0,yF a6,.l 0 9 3,yG ⟨#[39]⟩ s,.z 0] []
theorem zyl(c n:Nat)(sk sa sb:Int)(st:BA)(y:Hd)(yr:OA)(yn:Nat)(g1_:h1.get h.nx=some (zfK s))(_h:s.size≤1000)(a0:eqV 27 (zfJ s) jp=some (.bool false))(a1:eqV 27 jp jp=some (.bool true))(a2:eqV 43 ud ud=some (.bool true))(a3:Pu n 47 (zfI s) (.bool true) (zb7 h s))(a4:RD n 31 [.string s] (zb7 h s)=some (.tuple #[srV sk sa sb st y yr yn,iv (a:Int),iv (c:Int)],h1))(a5:((c:Int)==0)=false):∃ H,Fn n 40 [srV 1 3 0 s hdZ none 0] h (zjF s) H∧tl0 h1 h1.wm (h1.nx+1) H:=
 exT (kZ h) [aS 80 (srL 1 3 0 s hdZ none 0),.g 0 27 1 3,yE a0,.l 0 3 4,bT,.g 0 27 5 3,yE a1,.g 0 43 8 4,yE a2,.l 0 9 12,bT,.l 0 70 13,bT,.l 0 3 0,bF,bT,.g 0 27 1 3,yP a3,.l 0 3 1,bF,.l 0 3 1,bF,.l 0 3 1,bF,.l 0 9 3,yC a4 (kI (ko g1_)),aS 80 (srL 0 0 0 ⟨#[]⟩ hdZ none 0),.w 1 80 0 (srV sk sa sb st y yr yn),yF a5,.l 0 9 3,yG ⟨#[39]⟩ s,.z 0] []
theorem zyk(c:Nat)(a0:eqV 27 jp jp=some (.bool true))(a1:((y.k:Int)==0)=false)(a2:Pu n 66 [ndV y yr yn] (.tuple #[.string t,iv (c:Int)]) (al h.fh 80 (srL 2 0 0 ⟨#[]⟩ y yr yn)))(a3:((c:Int) !=0)=true):Pu (n+1) 40 [srV 2 0 0 ⟨#[]⟩ y yr yn] (.tuple #[.string ⟨#[]⟩,iv (c:Int)]) h:=
 fpT (kZ h) [aS 80 (srL 2 0 0 ⟨#[]⟩ y yr yn),.g 0 27 1 3,yE a0,.l 0 3 4,yF a1,.l 0 3 0,bF,bF,bT,.g 0 72 4 10,yP a2,yT a3,.z 0]
theorem zyh(a0:eqV 27 jp jp=some (.bool true))(a1:((y.k:Int)==0)=false)(a2:Pu n 66 [ndV y yr yn] (.tuple #[.string t,iv 0]) (al h.fh 80 (srL 2 0 0 ⟨#[]⟩ y yr yn)))(a3:decide ((t.data.toList.length:Int)>299)=true):Pu (n+1) 40 [srV 2 0 0 ⟨#[]⟩ y yr yn] (.tuple #[.string ⟨#[]⟩,iv 2]) h:=
 fpT (kZ h) [aS 80 (srL 2 0 0 ⟨#[]⟩ y yr yn),.g 0 27 1 3,yE a0,.l 0 3 4,yF a1,.l 0 3 0,bF,bF,bT,.g 0 72 4 10,yP a2,bF,yT a3,.z 0]
theorem zyj(_h:t.size≤10000)(a0:eqV 27 jp jp=some (.bool true))(a1:((y.k:Int)==0)=false)(a2:Pu n 66 [ndV y yr yn] (.tuple #[.string t,iv 0]) (al h.fh 80 (srL 2 0 0 ⟨#[]⟩ y yr yn)))(a3:decide ((t.data.toList.length:Int)>299)=false):Pu (n+1) 40 [srV 2 0 0 ⟨#[]⟩ y yr yn] (.tuple #[.string (⟨#[61]⟩++t),iv 0]) h:=
 fpT (kZ h) [aS 80 (srL 2 0 0 ⟨#[]⟩ y yr yn),.g 0 27 1 3,yE a0,.l 0 3 4,yF a1,.l 0 3 0,bF,bF,bT,.g 0 72 4 10,yP a2,bF,yF a3,yG ⟨#[61]⟩ t,.z 0]
theorem zBV(c n:Nat)(sk sa sb:Int)(st:BA)(y:Hd)(yr:OA)(yn:Nat)(a0:RD n 31 [.string s] h.fh=some (.tuple #[srV sk sa sb st y yr yn,iv (a:Int),iv (c:Int)],h1))(a1:((c:Int) !=0)=true):Fn n 22 [.string s] h (.tuple #[.string ⟨#[]⟩,iv (a:Int),iv (c:Int)]) (pt (zjD h1) h1.nx 80 (srL sk sa sb st y yr yn)):=
 fnT (kZ h) [yC a0 (kZ h1),aS 80 (srL 0 0 0 ⟨#[]⟩ hdZ none 0),.w 0 80 0 (srV sk sa sb st y yr yn),yT a1,.z 0]
theorem zBU(c n:Nat)(sk sa sb:Int)(st:BA)(y:Hd)(yr:OA)(yn:Nat)(h2:Heap)(t:BA)(d:Nat)(a0:RD n 31 [.string s] h.fh=some (.tuple #[srV sk sa sb st y yr yn,iv (a:Int),iv (c:Int)],h1))(a1:((c:Int) !=0)=false)(a2:RD n 40 [srV sk sa sb st y yr yn] (pt (zjD h1) h1.nx 80 (srL sk sa sb st y yr yn))=some (.tuple #[.string t,iv (d:Int)],h2)):Fn n 22 [.string s] h (.tuple #[.string t,iv 0,iv (d:Int)]) h2:=
 fnT (kZ h) [yC a0 (kZ h1),aS 80 (srL 0 0 0 ⟨#[]⟩ hdZ none 0),.w 0 80 0 (srV sk sa sb st y yr yn),yF a1,.g 0 80 0 14,yC a2 (kZ h2),.z 0]
theorem zt9(xr ro:OA)(a0:decide ((i:Int) < N)=false):Bd n 69 [1,1,0,1,0,0] Tryz.f8 [(0,.slice xr N N),(4,.slice ro lo lo),(5,iv (i:Int))] h (.exit 0) [(4,.slice ro lo lo)] h:=
 bdF (kZ h) [yF a0,.z 0]
theorem zAG(_h1:i < N)(_h2:N < 4000)(a0:decide ((i:Int) < N)=true)(a1:LD h 3 ib (0+i * 8) (iv k))(a2:((k:Int) !=1)=true):Bd n 69 [1,1,0,1,0,0] Tryz.f8 (zeO ib N ro lo i) h .ret zeN h:=
 bdF (kZ h) [yT a0,iA 22 45 8 ib N i,yE a1,yT a2,.z 0]
theorem zAH(_h1:i < N)(_h2:N < 4000)(a0:decide ((i:Int) < N)=true)(a1:LD h 3 ib (0+i * 8) (iv k))(a2:((k:Int) !=1)=false)(a3:LD h 29 ib ((0+i * 8)+1) (.agg #[iv r,iv c]))(a4:Pu n 21 [.agg #[iv r,iv c]] (.bool false) h):Bd n 69 [1,1,0,1,0,0] Tryz.f8 (zeO ib N ro lo i) h .ret zeN h:=
 bdF (kZ h) [yT a0,iA 22 45 8 ib N i,yE a1,yF a2,iA 22 45 8 ib N i,yE a3,yP a4,.z 0]
theorem zAI(_h1:i < N)(_h2:N < 4000)(a0:decide ((i:Int) < N)=true)(a1:LD h 3 ib (0+i * 8) (iv k))(a2:((k:Int) !=1)=false)(a3:LD h 29 ib ((0+i * 8)+1) (.agg #[iv r,iv c]))(a4:Pu n 21 [.agg #[iv r,iv c]] (.bool true) h)(a5:LD h 9 ib ((0+i * 8)+7) (.string s))(a6:RD n 22 [.string s] h=some (.tuple #[.string t,iv (a:Int),iv (d:Int)],h1))(a7:((d:Int) !=0)=true):Bd n 69 [1,1,0,1,0,0] Tryz.f8 (zeO ib N ro lo i) h .ret [(2,.slice none 0 0),(3,iv (d:Int))] h1:=
 bdF (kZ h) [yT a0,iA 22 45 8 ib N i,yE a1,yF a2,iA 22 45 8 ib N i,yE a3,yP a4,iA 22 45 8 ib N i,yE a5,yC a6 (kZ h1),yT a7,.z 0]
theorem zAF(d:Nat)(_h1:i < N)(_h2:N < 4000)(a0:decide ((i:Int) < N)=true)(a1:LD h 3 ib (0+i * 8) (iv k))(a2:((k:Int) !=1)=false)(a3:LD h 29 ib ((0+i * 8)+1) (.agg #[iv r,iv c]))(a4:Pu n 21 [.agg #[iv r,iv c]] (.bool true) h)(a5:LD h 9 ib ((0+i * 8)+7) (.string s))(a6:RD n 22 [.string s] h=some (.tuple #[.string t,iv (a:Int),iv 0],h1))(a7:Lf n 69 [1,1,0,1,0,0,1,0,0,1,1,1,0,1,0,0] Tryz.f8 (znO ib N ro lo i k r c s t a) h1 .ret zeN h1):Bd n 69 [1,1,0,1,0,0] Tryz.f8 (zeO ib N ro lo i) h .ret zeN h1:=
 bdF (kZ h) [yT a0,iA 22 45 8 ib N i,yE a1,yF a2,iA 22 45 8 ib N i,yE a3,yP a4,iA 22 45 8 ib N i,yE a5,yC a6 (kZ h1),bF,yS a7 (kZ h1),.z 0]
theorem zAJ(d:Nat)(_h1:i < N)(_h2:N < 4000)(a0:decide ((i:Int) < N)=true)(a1:LD h 3 ib (0+i * 8) (iv k))(a2:((k:Int) !=1)=false)(a3:LD h 29 ib ((0+i * 8)+1) (.agg #[iv r,iv c]))(a4:Pu n 21 [.agg #[iv r,iv c]] (.bool true) h)(a5:LD h 9 ib ((0+i * 8)+7) (.string s))(a6:RD n 22 [.string s] h=some (.tuple #[.string t,iv (a:Int),iv 0],h1))(a7:Lf n 69 [1,1,0,1,0,0,1,0,0,1,1,1,0,1,0,0] Tryz.f8 (znO ib N ro lo i k r c s t a) h1 (.exit 2) (zjE ib N ro lo i t) h1)(a8:bqS t ⟨#[]⟩=true):Bd n 69 [1,1,0,1,0,0] Tryz.f8 (zeO ib N ro lo i) h .ret zeN h1:=
 bdF (kZ h) [yT a0,iA 22 45 8 ib N i,yE a1,yF a2,iA 22 45 8 ib N i,yE a3,yP a4,iA 22 45 8 ib N i,yE a5,yC a6 (kZ h1),bF,yS a7 (kZ h1),yT a8,.z 0]
theorem zw3(d:Nat)(h2:Heap)(l2:Nat)(r2:OA)(u:BA)(_h1:i < N)(_h2:N < 4000)(_h3:u.size≤100)(_h4:t.size≤1000)(a0:decide ((i:Int) < N)=true)(a1:LD h 3 ib (0+i * 8) (iv k))(a2:((k:Int) !=1)=false)(a3:LD h 29 ib ((0+i * 8)+1) (.agg #[iv r,iv c]))(a4:Pu n 21 [.agg #[iv r,iv c]] (.bool true) h)(a5:LD h 9 ib ((0+i * 8)+7) (.string s))(a6:RD n 22 [.string s] h=some (.tuple #[.string t,iv (a:Int),iv 0],h1))(a7:Lf n 69 [1,1,0,1,0,0,1,0,0,1,1,1,0,1,0,0] Tryz.f8 (znO ib N ro lo i k r c s t a) h1 (.exit 2) (zjE ib N ro lo i t) h1)(a8:bqS t ⟨#[]⟩=false)(a9:LD h1 29 ib ((0+i * 8)+1) (.agg #[iv r,iv c]))(a10:Pu n 23 [.agg #[iv r,iv c]] (.string u) h1)(a11:zu En (al h1 9 [.string ((u++⟨#[32]⟩)++t)]) #[32,32] (.slice ro lo lo) (sv h1.nx 0 1 1)=some (.slice r2 l2 l2,h2)):Bd n 69 [1,1,0,1,0,0] Tryz.f8 (zeO ib N ro lo i) h .normal [(0,sv ib 0 N N),(4,.slice r2 l2 l2),(5,iv ((i:Int)+1))] h2:=
 bdF (kZ h) [yT a0,iA 22 45 8 ib N i,yE a1,yF a2,iA 22 45 8 ib N i,yE a3,yP a4,iA 22 45 8 ib N i,yE a5,yC a6 (kZ h1),bF,yS a7 (kZ h1),yF a8,iA 22 45 8 ib N i,yE a9,yP a10,yG u ⟨#[32]⟩,yG (u++⟨#[32]⟩) t,aS 9 [.string ((u++⟨#[32]⟩)++t)],yC a11 (kZ h2),yW ((i:Int)+1),.z 0]
theorem zt8(a0:decide ((j:Int) < t.data.toList.length)=false):Bd n 69 [1,1,0,1,0,0,1,0,0,1,1,1,0,1,0,0] Tryz.f8 (znN ib N ro lo i t j) h (.exit 2) (zjE ib N ro lo i t) h:=
 bdF (kZ h) [yF a0,.z 0]
theorem zw2(_hk:j < t.data.toList.length)(_hl:t.data.toList.length < 4000)(a0:decide ((j:Int) < t.data.toList.length)=true)(a1:(((bAt t (j:Int):Int):Int)==10)=false):Bd n 69 [1,1,0,1,0,0,1,0,0,1,1,1,0,1,0,0] Tryz.f8 (znN ib N ro lo i t j) h .normal [(0,sv ib 0 N N),(4,.slice ro lo lo),(5,iv (i:Int)),(6,.string t),(9,iv ((j:Int)+1))] h:=
 bdF (kZ h) [yT a0,yI 9 t (j:Int),yF a1,yW ((j:Int)+1),.z 0]
theorem zt7(_hk:j < t.data.toList.length)(_hl:t.data.toList.length < 4000)(a0:decide ((j:Int) < t.data.toList.length)=true)(a1:(((bAt t (j:Int):Int):Int)==10)=true):Bd n 69 [1,1,0,1,0,0,1,0,0,1,1,1,0,1,0,0] Tryz.f8 (znN ib N ro lo i t j) h .ret zeN h:=
 bdF (kZ h) [yT a0,yI 9 t (j:Int),yT a1,.z 0]
theorem zw4(a0:Lf n 69 [1,1,0,1,0,0] Tryz.f8 [(0,.slice xr N N),(2,.slice none 0 0),(3,iv 0),(4,.slice none 0 0),(5,iv 0)] h.fh (.exit 0) [(4,.slice ro lo lo)] hL):Fn n 8 [.slice xr N N] h (.tuple #[.slice ro lo lo,iv 0]) hL:=
 fnT (kZ h) [yS a0 (kZ hL),.z 0]
theorem zw5(n:Nat)(a0:Lf n 69 [1,1,0,1,0,0] Tryz.f8 [(0,.slice xr N N),(2,.slice none 0 0),(3,iv 0),(4,.slice none 0 0),(5,iv 0)] h.fh .ret [(2,.slice none 0 0),(3,iv (d:Int))] hL):Fn n 8 [.slice xr N N] h (.tuple #[.slice none 0 0,iv (d:Int)]) hL:=
 fnT (kZ h) [yS a0 (kZ hL),.z 0]
theorem zsL(xr ro:OA)(a0:decide ((i:Int) < N)=false):Bd n 29 [1,1,0,1,0,0] Tryz.f12 [(0,.slice xr N N),(3,.slice ro lo lo),(4,iv (i:Int))] h (.exit 0) [(3,.slice ro lo lo)] h:=
 bdF (kZ h) [yF a0,.z 0]
theorem zvA(k v:Int)(s t u:BA)(_h1:i < N)(_h2:N < 4000)(_h3:t.size≤100)(_h4:u.size≤1100)(a0:decide ((i:Int) < N)=true)(a1:LD (zd 1 h) 29 ib (0+i * 5) (.agg #[iv r,iv c]))(a2:Pu n 23 [.agg #[iv r,iv c]] (.string t) (zd 1 h))(a3:LD (zd 1 h) 27 ib ((0+i * 5)+2) (.agg #[iv k,iv v,.string s]))(a4:Pu n 26 [.agg #[iv k,iv v,.string s]] (.string u) (zd 1 h))(a5:zu En (pt (zd 1 h) h.nx 9 [.string ((t++⟨#[32]⟩)++u)]) #[32,32] (.slice ro lo lo) (sv h.nx 0 1 1)=some (.slice r2 l2 l2,h2)):Bd n 29 [1,1,0,1,0,0] Tryz.f12 [(0,sv ib 0 N N),(3,.slice ro lo lo),(4,iv (i:Int))] h .normal [(0,sv ib 0 N N),(3,.slice r2 l2 l2),(4,iv ((i:Int)+1))] h2:=
 bdF (kZ h) [yT a0,.v 1,iA 23 31 5 ib N i,yE a1,yP a2,yG t ⟨#[32]⟩,iA 23 31 5 ib N i,yE a3,yP a4,yG (t++⟨#[32]⟩) u,bS 0 9 [.string ((t++⟨#[32]⟩)++u)],yC a5 (kZ h2),yN (h.nx+1),.j 0,.q (yE a1),.q (yE a3),.q (yE a3),.j 2,yW ((i:Int)+1),.z 0]
theorem zvB(a0:Lf n 29 [1,1,0,1,0,0] Tryz.f12 [(0,.slice xr N N),(2,.slice none 0 0),(3,.slice none 0 0),(4,iv 0)] h.fh (.exit 0) [(3,.slice ro lo lo)] hL):Fn n 12 [.slice xr N N] h (.slice ro lo lo) hL:=
 fnV (kZ h) [yS a0 (kZ hL),.z 0]
theorem zuh(xr:OA)(a0:decide ((i:Int) < N)=false):Bd n 20 [1,0,1,0,0] Tryz.f5 [(0,.slice xr N N),(3,iv (i:Int))] h (.exit 0) [(0,.slice xr N N)] h:=
 bdF (kZ h) [yF a0,.z 0]
theorem zxf(_h1:i < N)(_h2:N < 9223372036854775808)(a0:decide ((i:Int) < N)=true)(a1:LD h 9 ib ((0+i * 8)+7) (.string s))(a2:decide ((s.data.toList.length:Int)>1000)=false):Bd n 20 [1,0,1,0,0] Tryz.f5 [(0,sv ib 0 N N),(3,iv (i:Int))] h .normal [(0,sv ib 0 N N),(3,iv ((i:Int)+1))] h:=
 bdF (kZ h) [yT a0,iA 22 45 8 ib N i,yE a1,yF a2,yW ((i:Int)+1),.z 0]
theorem zxg(_h1:i < N)(_h2:N < 9223372036854775808)(a0:decide ((i:Int) < N)=true)(a1:LD h 9 ib ((0+i * 8)+7) (.string s))(a2:decide ((s.data.toList.length:Int)>1000)=true):Bd n 20 [1,0,1,0,0] Tryz.f5 [(0,sv ib 0 N N),(3,iv (i:Int))] h .ret [(2,.bool false)] h:=
 bdF (kZ h) [yT a0,iA 22 45 8 ib N i,yE a1,yT a2,.z 0]
theorem zBa(xr:OA)(v:Bool)(a0:Lf n 20 [1,0,1,0,0] Tryz.f5 [(0,.slice xr N N),(2,.bool false),(3,iv 0)] h.fh (.exit 0) [(0,.slice xr N N)] h.fh)(a1:decide ((N:Int)≤60)=true):Pu (n+1) 5 [.slice xr N N] (.bool true) h:=
 fpV (kZ h) [yS a0 (kZ h.fh),yT a1,.z 0]
theorem zA9(xr:OA)(a0:Lf n 20 [1,0,1,0,0] Tryz.f5 [(0,.slice xr N N),(2,.bool false),(3,iv 0)] h.fh (.exit 0) [(0,.slice xr N N)] h.fh)(a1:decide ((N:Int)≤60)=false):Pu (n+1) 5 [.slice xr N N] (.bool false) h:=
 fpV (kZ h) [yS a0 (kZ h.fh),yF a1,.z 0]
theorem zBb(xr:OA)(a0:Lf n 20 [1,0,1,0,0] Tryz.f5 [(0,.slice xr N N),(2,.bool false),(3,iv 0)] h.fh .ret [(2,.bool false)] h.fh):Pu (n+1) 5 [.slice xr N N] (.bool false) h:=
 fpV (kZ h) [yS a0 (kZ h.fh),.z 0]
theorem zsk(a0:decide ((i:Int) < N)=false):Bd n 26 [1,1,0,1,0,0] Tryz.f9 [(0,.slice ra N N),(1,.slice rb N N),(5,iv (i:Int))] h (.exit 0) [] h:=
 bdF (kZ h) [yF a0]
theorem zve(_h1:i < N)(_h2:N < 4000)(a0:decide ((i:Int) < N)=true)(a1:LD h 9 ab (0+i * 1) (.string s))(a2:LD h 9 bb (0+i * 1) (.string s))(a3:(!bqS s s)=false):Bd n 26 [1,1,0,1,0,0] Tryz.f9 [(0,sv ab 0 N N),(1,sv bb 0 N N),(5,iv (i:Int))] h .normal [(0,sv ab 0 N N),(1,sv bb 0 N N),(5,iv ((i:Int)+1))] h:=
 bdF (kZ h) [yT a0,iA 32 9 1 ab N i,yE a1,iA 32 9 1 bb N i,yE a2,yF a3,yN h.nx,.q (yE a1),.q (yE a2),yW ((i:Int)+1),.z 0]
theorem zx0(a0:((N:Int) !=N)=false)(a1:Lf n 26 [1,1,0,1,0,0] Tryz.f9 (zpM ra N rb) h.fh (.exit 0) [] h.fh):Pu (n+1) 9 [.slice ra N N,.slice rb N N] (.bool true) h:=
 fpV (kZ h) [yF a0,yS a1 (kZ h.fh),.z 0]
theorem zus(a0:decide ((i:Int) < N)=false):Bd n 27 [1,1,0,1,0,0] Tryz.f10 [(0,.slice ra N N),(1,.slice rb N N),(5,iv (i:Int))] h (.exit 0) [] h:=
 bdF (kZ h) [yF a0]
theorem zxu(_h1:i < N)(_h2:N < 4000)(a0:decide ((i:Int) < N)=true)(a1:LD h 45 ab (0+i * 8) (.agg #[iv k,iv r,iv c,iv i1,iv i2,iv i3,iv i4,.string s]))(a2:LD h 45 bb (0+i * 8) (.agg #[iv k,iv r,iv c,iv i1,iv i2,iv i3,iv i4,.string s]))(a3:Pu n 15 [.agg #[iv k,iv r,iv c,iv i1,iv i2,iv i3,iv i4,.string s],.agg #[iv k,iv r,iv c,iv i1,iv i2,iv i3,iv i4,.string s]] (.bool true) h):Bd n 27 [1,1,0,1,0,0] Tryz.f10 [(0,sv ab 0 N N),(1,sv bb 0 N N),(5,iv (i:Int))] h .normal [(0,sv ab 0 N N),(1,sv bb 0 N N),(5,iv ((i:Int)+1))] h:=
 bdF (kZ h) [yT a0,iA 22 45 8 ab N i,yE a1,iA 22 45 8 bb N i,yE a2,yP a3,yN h.nx,.q (yE a1),.q (yE a2),yW ((i:Int)+1),.z 0]
theorem zBt(a0:((N:Int) !=N)=false)(a1:Lf n 27 [1,1,0,1,0,0] Tryz.f10 (zpM ra N rb) h.fh (.exit 0) [] h.fh):Pu (n+1) 10 [.slice ra N N,.slice rb N N] (.bool true) h:=
 fpV (kZ h) [yF a0,yS a1 (kZ h.fh),.z 0]
theorem zxs(a0:((k:Int)==k)=true)(a1:eqV 29 (.agg #[iv r,iv c]) (.agg #[iv r,iv c])=some (.bool true))(a2:eqV 43 (.agg #[iv i1,iv i2,iv i3,iv i4]) (.agg #[iv i1,iv i2,iv i3,iv i4])=some (.bool true))(a3:bqS s s=true):Pu (n+1) 15 [.agg #[iv k,iv r,iv c,iv i1,iv i2,iv i3,iv i4,.string s],.agg #[iv k,iv r,iv c,iv i1,iv i2,iv i3,iv i4,.string s]] (.bool true) h:=
 fpV (kZ h) [aS 45 [iv k,iv r,iv c,iv i1,iv i2,iv i3,iv i4,.string s],aS 45 [iv k,iv r,iv c,iv i1,iv i2,iv i3,iv i4,.string s],.l 0 3 0,.l 1 3 0,yT a0,.g 0 29 1 2,.g 1 29 1 2,yE a1,.g 0 43 3 4,.g 1 43 3 4,yE a2,.l 0 9 7,.l 1 9 7,yT a3,.z 0]
theorem zuv(a0:decide ((i:Int) < M)=false):Bd n 73 [1,1,0,1,0,0] Tryz.f3 [(0,.slice rl N N),(1,.slice rv M M),(5,iv (i:Int))] h (.exit 0) [(0,.slice rl N N),(1,.slice rv M M)] h:=
 bdF (kZ h) [yF a0,.z 0]
theorem zxy(_h1:i < M)(_h2:M < 4000)(a0:decide ((i:Int) < M)=true)(a1:LD h 9 vb (((0+i * 5)+2)+2) (.string s))(a2:decide ((s.data.toList.length:Int)>1000)=false):Bd n 73 [1,1,0,1,0,0] Tryz.f3 [(0,.slice rl N N),(1,sv vb 0 M M),(5,iv (i:Int))] h .normal [(0,.slice rl N N),(1,sv vb 0 M M),(5,iv ((i:Int)+1))] h:=
 bdF (kZ h) [yT a0,iA 23 31 5 vb M i,yE a1,yF a2,yW ((i:Int)+1),.z 0]
theorem zxz(_h1:i < M)(_h2:M < 4000)(a0:decide ((i:Int) < M)=true)(a1:LD h 9 vb (((0+i * 5)+2)+2) (.string s))(a2:decide ((s.data.toList.length:Int)>1000)=true)(a3:Pu n 6 [] (.bool true) h):Bd n 73 [1,1,0,1,0,0] Tryz.f3 [(0,.slice rl N N),(1,sv vb 0 M M),(5,iv (i:Int))] h .ret [(4,.bool true)] h:=
 bdF (kZ h) [yT a0,iA 23 31 5 vb M i,yE a1,yT a2,yP a3,.z 0]
theorem zBA(a0:Pu n 5 [.slice rl N N] (.bool false) h.fh)(a1:Pu n 6 [] (.bool true) h.fh):Pu (n+1) 3 [.slice rl N N,.slice rv M M] (.bool true) h:=
 fpV (kZ h) [yP a0,yP a1,.z 0]
theorem zBz(a0:Pu n 5 [.slice rl N N] (.bool true) h.fh)(a1:decide ((M:Int)>100)=true)(a2:Pu n 6 [] (.bool true) h.fh):Pu (n+1) 3 [.slice rl N N,.slice rv M M] (.bool true) h:=
 fpV (kZ h) [yP a0,yT a1,yP a2,.z 0]
theorem zBx(a0:Pu n 5 [.slice rl N N] (.bool true) h.fh)(a1:decide ((M:Int)>100)=false)(a2:Lf n 73 [1,1,0,1,0,0] Tryz.f3 (ztK rl N rv M) h.fh .ret [(4,.bool true)] h.fh):Pu (n+1) 3 [.slice rl N N,.slice rv M M] (.bool true) h:=
 fpV (kZ h) [yP a0,yF a1,yS a2 (kZ h.fh),.z 0]
theorem zBy(h3 h4 h5 h6:Heap)(N M n ln la lm ta tb d:Nat)(rl rv r0 ra rb r1 ta_ tb_:OA)(a0:Pu n 5 [.slice rl N N] (.bool true) h.fh)(a1:decide ((M:Int)>100)=false)(a2:Lf n 73 [1,1,0,1,0,0] Tryz.f3 (ztK rl N rv M) h.fh (.exit 0) [(0,.slice rl N N),(1,.slice rv M M)] h.fh)(a3:zu En (al h.fh 45 []) #[22,22] (sv h.nx 0 0 0) (.slice rl N N)=some (.slice r0 N N,h1))(a4:RD n 7 [.slice r0 N N] h1=some (.tuple #[.slice ra ln ln,iv (d:Int)],h2))(a5:RD n 8 [.slice rl N N] h2=some (.tuple #[.slice rb ln ln,iv (d:Int)],h3))(a6:Pu n 9 [.slice ra ln ln,.slice rb ln ln] (.bool true) h3)(a7:((d:Int)==(d:Int))=true)(a8:Pu n 10 [.slice r0 N N,.slice rl N N] (.bool true) h3)(a9:zu En (al h3 31 []) #[23,23] (sv h3.nx 0 0 0) (.slice rv M M)=some (.slice r1 M M,h4))(a10:RD n 11 [.slice r1 M M] h4=some (.slice ta_ ta ta,h5))(a11:RD n 12 [.slice rv M M] h5=some (.slice tb_ ta ta,h6))(a12:Pu n 9 [.slice ta_ ta ta,.slice tb_ ta ta] (.bool true) h6)(a13:Pu n 6 [] (.bool true) h6):Fn n 3 [.slice rl N N,.slice rv M M] h (.bool true) h6:=
 fnV (kZ h) [yP a0,yF a1,yS a2 (kZ h.fh),aS 45 [],yC a3 (kZ h1),yC a4 (kZ h2),yC a5 (kZ h3),yP a6,yT a7,yP a8,aS 31 [],yC a9 (kZ h4),yC a10 (kZ h5),yC a11 (kZ h6),yP a12,yP a13,.z 0]
end
theorem zAs(h:Heap)(n:Nat)(r c:Int)(a0:Pu n 37 [.agg #[iv r,iv c]] (.bool false) (al h.fh 29 [iv r,iv c])):Pu (n+1) 24 [.agg #[iv r,iv c]] (.string ⟨#[]⟩) h:=
 fpV (kZ h) [aS 29 [iv r,iv c],.g 0 29 0 2,yP a0,.z 0]
theorem zAg(h:Heap)(n:Nat)(r c:Int)(a0:Pu n 21 [.agg #[iv r,iv c]] (.bool false) (al h.fh 29 [iv r,iv c])):Pu (n+1) 23 [.agg #[iv r,iv c]] (.string ⟨#[]⟩) h:=
 fpV (kZ h) [aS 29 [iv r,iv c],.g 0 29 0 2,yP a0,.z 0]
def binR(s:Bsy):Nat:=if s=[94] then 4 else if s=[42]∨s=[47]∨s=[37] then 3 else if s=[43]∨s=[45]∨s=[38] then 2 else 1
def rowT:Tr→Nat
 | .node x _=>if x.k=4 then 5 else if x.k=5 then binR x.nm.data.toList else 6
def wX(b:Nat):Nat×Nat:=if b=2 then(2,3) else if b=3 then(3,4) else if b=4 then(5,4) else(2,2)
def vc(R:Nat)(t:Tr)(s:Bsy):Bsy:=if rowT t < R then 40::(s++[41]) else s
def yZ(s:Bsy):Bsy:=34::(s.flatMap (fun b=>if b.toNat=34 then[34,34] else[b])++[34])
def zBD(x:Hd):Bsy:=if x.a=2 then Lib.itoa x.b else if x.a=3 then yZ x.t.data.toList else if x.b=1 then[84,82,85,69] else[70,65,76,83,69]
def qQ(l:List (Bsy)):Bsy:=l.flatMap fun a=>44::a
def qr:List (Bsy)→Bsy
 |[]=>[]
 |a::l=>a++qQ l
def zBc(x:Hd)(ts:List Tr)(ss:List (Bsy)):Bsy:=
 if x.k=1 then zBD x
 else if x.k=2 then nmB x.r0.toNat x.c0.toNat
 else if x.k=3 then nmB x.r0.toNat x.c0.toNat++[58]++nmB x.r1.toNat x.c1.toNat
 else if x.k=4 then(match ts,ss with|[t],[s]=>45::vc 5 t s|_,_=>[])
 else if x.k=5 then(match ts,ss with|[t,u],[s,v]=>vc (wX (binR x.nm.data.toList)).1 t s++x.nm.data.toList++vc (wX (binR x.nm.data.toList)).2 u v|_,_=>[])
 else x.nm.data.toList++[40]++qr ss++[41]
mutual
def txt:Tr→Bsy
 | .node x ts=>zBc x ts (wu ts)
def wu:List Tr→List (Bsy)
 |[]=>[]
 |t::l=>txt t::wu l
end
theorem vN(R:Nat)(t:Tr)(s:Bsy):(vc R t s).length≤s.length+2:=by
 unfold vc
 split
 ·simp
 ·omega
theorem zdf(s:Bsy):(yZ s).length≤2 * s.length+2:=by
 unfold yZ
 have:∀ l:Bsy,(l.flatMap fun b=>if b.toNat=34 then[34,34] else[b]).length≤2 * l.length:=by
  intro l
  induction l with
  |nil=>simp
  |cons b l ih=>
   rw[List.flatMap_cons,lA,lC]
   split <;>simp only[lC,lN] <;>omega
 have:=this s
 simp only[lC,lA,lN];omega
theorem qy(a:Bsy)(l:List (Bsy)):qQ (a::l)=44::(a++qQ l):=rfl
theorem zch:∀ l,(qr l).length≤(qQ l).length
 |[]=>nL_ _
 |a::l=>by rw[qy];simp[qr]
mutual
theorem jU:∀ t,GT t→(txt t).length+4≤410 * t.size
 | .node x ts,g=>by
  have L:=zbe ts g.args.1
  unfold txt Tr.size
  cases g with
  |int n h=>
   show(Lib.itoa n).length+4≤_
   have:=zdn (n:=(n:Int)) (by omega) (by omega)
   omega
  |text s h=>
   show(yZ s).length+4≤_
   have:=zdf s
   omega
  |bool b h=>
   show(if(b:Int)=1 then[84,82,85,69] else[70,65,76,83,69]:Bsy).length+4≤_
   split <;>simp only[lC,lN] <;>omega
  |cell r c h=>
   show(nmB r c).length+4≤_
   have:=yw h
   omega
  |range r c r' c' h h' hr hc=>
   show(nmB r c++[58]++nmB r' c').length+4≤_
   have:=yw h
   have:=yw h'
   simp only[lA,lC,lN];omega
  |neg t ht=>
   have h2:=vN 5 t (txt t)
   have h1:(txt t).length+1+0≤410 * (t.size+0):=by simpa[wu,qy,qQ,zo] using L
   show(45::vc 5 t (txt t)).length+4≤410 * (1+(t.size+0))
   simp only[lC];omega
  |two s y z hs hy hz=>
   have h1:(txt y).length+1+((txt z).length+1)≤410 * (y.size+(z.size+0)):=by
    have L:=L
    rw[show wu [y,z]=[txt y,txt z] from rfl,qy,qy,show zo [y,z]=y.size+(z.size+0) from rfl] at L
    simp only[lC,lA] at L
    omega
   have h3:=vN (wX (binR s)).1 y (txt y)
   have h4:=vN (wX (binR s)).2 z (txt z)
   have h5:s.length≤2:=by
    unfold wq at hs
    simp only[List.mem_cons,List.not_mem_nil,or_false] at hs
    rcases hs with rfl|rfl|rfl|rfl|rfl|rfl|rfl|rfl|rfl|rfl|rfl|rfl|rfl <;>simp
   show(vc (wX (binR s)).1 y (txt y)++s++vc (wX (binR s)).2 z (txt z)).length+4≤410 * (1+(y.size+(z.size+0)))
   simp only[lA];omega
  |call nm l hw hl hh=>
   have h1:=L
   have h2:=zch (wu ts)
   have h3:=hw.1
   show(nm++[40]++qr (wu ts)++[41]).length+4≤_
   simp only[lA,lC,lN];omega
theorem zbe:∀ l:List Tr,(∀ t∈l,GT t)→(qQ (wu l)).length≤410 * zo l
 |[],_=>Nat.zero_le _
 |t::l,h=>by
  have h1:=jU t (h t (List.mem_cons_self ..))
  have h2:=zbe l fun u hu=>h u (List.mem_cons_of_mem _ hu)
  unfold wu zo
  rw[qy]
  simp only[lC,lA];omega
end
theorem zkB{t:Tr}(g:GT t):txt t≠[]:=by
 cases g with
 |int n h=>
  show Lib.itoa n≠[]
  rw[zbu]
  obtain⟨c,r,e,_⟩:=zbG n
  rw[e];simp
 |text s h=>show yZ s≠[];simp[yZ]
 |bool b h=>
  show(if(b:Int)=1 then[84,82,85,69] else[70,65,76,83,69]:Bsy)≠[]
  split <;>simp
 |cell r c h=>exact fun e=>by have:=zis c;have e:nmB r c=[]:=e;simp[nmB] at e;rw[e.1] at this;simp at this
 |range r c r' c' h h' hr hc=>show nmB r c++[58]++nmB r' c'≠[];simp
 |neg t ht=>exact fun e=>by cases(show 45::vc 5 t (txt t)=[] from e)
 |two s y z hs hy hz=>
  intro e
  have e:vc (wX (binR s)).1 y (txt y)++s++vc (wX (binR s)).2 z (txt z)=[]:=e
  simp only[List.append_eq_nil_iff] at e
  rw[e.1.2] at hs
  revert hs;decide
 |call nm l hw hl hh=>show nm++[40]++qr (wu l)++[41]≠[];simp
theorem ztT{m:Int}{h:Heap}(G:Gl m h)(l:Bsy)(hl:l.length≤4000)(n:Nat)(hn:3≤n):∃ a ok,RD n 73 [.string ⟨⟨l⟩⟩] h=some (.tuple #[iv a,.bool ok],h)∧zpk l a ok:=by
 obtain⟨n,rfl⟩:∃ m,n=m+1+1:=⟨n - 2,by omega⟩
 have hb:Nat.ble (⟨⟨l⟩⟩:BA).size 281474976710656=true:=by rw[Nat.ble_eq,wx];omega
 obtain⟨g4,g5⟩:=zuf G.fh
 have low:∀ {X:Option (Value×Heap)} {v:Vs} {H:Heap},X=some (zy h (.tuple ⟨v⟩) H)→h.nx≤H.wm→zM h.nx 5 (.tuple ⟨v⟩)=true→X=some (.tuple ⟨v⟩,h):=fun e hw hv=>by rw[e,zk hw hv]
 have e106:∀ {x:Option (Value×Heap)},vH [.string ⟨⟨l⟩⟩,iv 10,iv 64] h.fh=x→RD (n+1) 106 [.string ⟨⟨l⟩⟩,iv 10,iv 64] h.fh=x:=fun hx=>by
  show zB En orcD (drawn En) 18446744073709551616 (n+1) 106 _ h.fh=_
  simp only[zB,zdi]
  exact hx
 have no:(∀ a,Lib.parseIntB 64 l≠.ok a)→∀ b,¬ jm l b:=fun h b hb=>h b hb.parse
 cases hp:Lib.parseIntB 64 l with
 |ok a=>
  have e1:=e106 (x:=some (.tuple #[iv a,.nilIface],h.fh)) (by simp only[vH,hb,cond_true,hp])
  have hr: -9223372036854775808≤a∧a≤9223372036854775807:=by
   unfold Lib.parseIntB at hp
   cases l with
   |nil=>cases hp
   |cons b t=>
    simp only at hp
    split at hp
    ·cases hp
    ·cases hp
    next u _=>
     split at hp
     ·cases hp
     next h1=>
      split at hp
      ·cases hp
      next h2=>
       simp only[Lib.NumEnd.ok.injEq] at hp
       subst hp
       split
       next h3=>
        have:¬ 2 ^ (64 - 1) < u:=fun h=>h2 ⟨h3,h⟩
        omega
       next h3=>
        have:¬ 2 ^ (64 - 1)≤u:=fun h=>h1 ⟨h3,h⟩
        omega
  have e45:=zaN G.fh hr.1 hr.2 (n+1) (by omega)
  by_cases he:Lib.itoa a=l
  ·exact⟨a,true,low (zwN h ⟨⟨l⟩⟩ _ a (n+1) e1 e45 (congrArg (! ·) ((zZ _ _).trans (dT he)))) (nL_ _) rfl,.inl ⟨rfl,hr.1,hr.2,he⟩⟩
  ·refine⟨0,false,low (zwO h ⟨⟨l⟩⟩ _ a (n+1) e1 e45 (congrArg (! ·) ((zZ _ _).trans (dF he)))) (nL_ _) rfl,.inr ⟨rfl,fun b hb=>he ?_⟩⟩
   have:=hb.parse
   rw[hp] at this
   cases this
   exact hb.2.2
 |range=>
  have e1:=e106 (x:=some (.tuple #[iv (Lib.intSat 64 l),.iface 279 (pv h.nx 0)],zd 1 h.fh)) (by simp only[vH,hb,cond_true,hp,g5];rfl)
  exact⟨0,false,low (zlx h _ ⟨⟨l⟩⟩ _ h.nx (n+1) e1) (by rw[zJ];exact nL_ _) rfl,.inr ⟨rfl,no fun a e=>by rw[hp] at e;cases e⟩⟩
 |_=>
  have e1:=e106 (x:=some (.tuple #[iv 0,.iface 279 (pv h.nx 0)],zd 1 h.fh)) (by simp only[vH,hb,cond_true,hp,g4];rfl)
  exact⟨0,false,low (zlx h _ ⟨⟨l⟩⟩ 0 h.nx (n+1) e1) (by rw[zJ];exact nL_ _) rfl,.inr ⟨rfl,no fun a e=>by rw[hp] at e;cases e⟩⟩
end Go.PanE
