/-
 Part 23 of the proof of Rows.DumpReadsCardSaid: What append makes.
 Builder.WriteByte: paths printed by sx.py (m3.py).
 A strings.Builder that a call has made, in the machine's memory: WriteByte and String.
 lex.text and the reference's text: paths printed by sx.py (m4.py).
 Upper, in both texts: paths printed by sx.py (m2.py).
 lex.run: how far bytes go. Paths printed by sx.py (m1.py).
 No conditions.
-/
import Derived.Test.YtihkphfmnnndfaaGreatDoorT22
namespace Go.PanE
open Go.Proofs
section
variable {env:Env} {h:Heap}
theorem Heap.nx_kill(h:Heap)(b:Nat):(h.kill b).nx=h.nx:=rfl
theorem Heap.wm_kill(h:Heap)(b:Nat):(h.kill b).wm=min b h.wm:=wm_min b h.wm
theorem Heap.get_kill_other(h:Heap){b c:Nat}(hc:c≠b):(h.kill b).get c=h.get c:=by rw[Heap.get_kill,if_neg hc]
/-- A slice's type, its elements' type, size and bytes. -/
structure SlT(env:Env)(t e:TypeId)(sz by_:Nat):Prop where
 und:env.und t=some (.slice e)
 size:env.size e=some sz
 bytes:env.bytes e=some by_
 zero:∃ z,env.zero e=some z∧z.cells.size=sz
 pos:0 < sz
theorem src_row{b o n c sz:Nat}{el:TypeId}{cs xs:List Value}{es:Nat}{ro:Bool}(hg:h.get b=some (.row el cs es ro))(hx:(cs.drop o).take (n * sz)=xs)(hl:xs.length=n * sz):
  srcCells h sz none (.slice (some ⟨b,o,none⟩) n c)=some xs:=by
 simp only[srcCells,hg,Option.getD_none,hx]
 rw[if_pos (by rw[hl];exact Nat.beq_refl _)]
theorem append_nil{t e:TypeId}{sz by_ b o n c:Nat}{el:TypeId}{cs xs:List Value}{es:Nat}{ro:Bool}(S:SlT env t e sz by_)(hg:h.get b=some (.row el cs es ro))(hx:(cs.drop o).take (n * sz)=xs)(hl:xs.length=n * sz)
  (hn:0 < n) (hb:(2 * n+1000) * (by_+1)≤281474976710656):
  appendA env h #[t,t] (.slice none 0 0) (.slice (some ⟨b,o,none⟩) n c)=some (.slice (some ⟨h.nx,0,none⟩) n n,h.alloc (.row e xs sz false)):=by
 obtain⟨z,hz,hzs⟩:=S.zero
 have hsrc:=src_row (n:=n) (c:=c) hg hx hl
 have p:=S.pos
 have c1:(isIntD (.slice e) || Nat.beq sz 0 || !Nat.beq xs.length (n * sz) || !Nat.beq z.cells.size sz)=false:=by
  have h1:Nat.beq sz 0=false:=T.beq_false (by omega)
  rw[hl,hzs,Nat.beq_refl,Nat.beq_refl,h1];rfl
 unfold appendA
 simp only[List.getElem?_toArray,List.getElem?_cons_zero,List.getElem?_cons_succ,S.und,S.size,S.bytes,hz,srcLen,hsrc,c1,Bool.false_eq_true,if_false]
 have h2:Nat.beq n 0=false:=T.beq_false (by omega)
 have h3:Nat.ble n 0=false:=by
  cases e:Nat.ble n 0 with
  |false=>rfl
  |true=>rw[Nat.ble_eq] at e;omega
 have h4:Nat.ble ((2 * n+1000) * (by_+1)) 281474976710656=true:=by rw[Nat.ble_eq];exact hb
 simp only[Nat.zero_add,h2,h3,h4,Bool.false_eq_true,if_false,if_true]
theorem append_open{t e:TypeId}{sz by_ b0 l b o n c:Nat}{el:TypeId}{cells cs xs:List Value}{es:Nat}{ro:Bool}(S:SlT env t e sz by_)(h0:h.get b0=some (.row e cells sz false))(h0l:cells.length=l * sz)
  (hg:h.get b=some (.row el cs es ro)) (hx:(cs.drop o).take (n * sz)=xs) (hl:xs.length=n * sz) (hone:xs.all oneCell=true)
  (hn:0 < n) (hb:(2 * (l+n)+1000) * (by_+1)≤281474976710656):
  appendA env h #[t,t] (.slice (some ⟨b0,0,none⟩) l l) (.slice (some ⟨b,o,none⟩) n c)=some (.slice (some ⟨h.nx,0,none⟩) (l+n) (l+n),(h.kill b0).alloc (.row e (cells++xs) sz false)):=by
 obtain⟨z,hz,hzs⟩:=S.zero
 have hsrc:=src_row (n:=n) (c:=c) hg hx hl
 have p:=S.pos
 have c1:(isIntD (.slice e) || Nat.beq sz 0 || !Nat.beq xs.length (n * sz) || !Nat.beq z.cells.size sz)=false:=by
  have h1:Nat.beq sz 0=false:=T.beq_false (by omega)
  rw[hl,hzs,Nat.beq_refl,Nat.beq_refl,h1];rfl
 unfold appendA
 simp only[List.getElem?_toArray,List.getElem?_cons_zero,List.getElem?_cons_succ,S.und,S.size,S.bytes,hz,srcLen,hsrc,c1,Bool.false_eq_true,if_false]
 have h2:Nat.beq n 0=false:=T.beq_false (by omega)
 have h3:Nat.ble (l+n) l=false:=by
  cases e:Nat.ble (l+n) l with
  |false=>rfl
  |true=>rw[Nat.ble_eq] at e;omega
 have h4:Nat.ble ((2 * (l+n)+1000) * (by_+1)) 281474976710656=true:=by rw[Nat.ble_eq];exact hb
 have h5:fullOpen env h e b0 0 l=some true:=by
  unfold fullOpen
  rw[h0,S.size]
  simp only
  rw[if_neg (by omega)];simp only[if_true,Nat.zero_add,h0l,Nat.beq_refl]
 have h6:srcCells h sz (some l) (.slice (some ⟨b0,0,none⟩) l l)=some cells:=by
  simp only[srcCells,h0,Option.getD_some,List.drop_zero]
  rw[List.take_of_length_le (by omega),if_pos (by rw[h0l];exact Nat.beq_refl _)]
 have h7:(Nat.beq e e && xs.all oneCell && Nat.ble l l && Nat.beq 0 0)=true:=by
  rw[Nat.beq_refl,hone,Nat.beq_refl]
  have:Nat.ble l l=true:=by rw[Nat.ble_eq];exact Nat.le_refl l
  rw[this];rfl
 simp only[h2,h3,h4,h5,h6,h0,h7,Bool.false_eq_true,if_false,if_true]
theorem slT108:SlT En 108 5 1 1:=⟨by kernel_rfl,by kernel_rfl,by kernel_rfl,⟨.int .u8 0,by kernel_rfl,rfl⟩,by decide⟩
end
end Go.PanE
namespace Go.PanE
open Go.Proofs
theorem wbA(h h1:Heap)(B:Nat)(c:Int)(n:Nat)(hB:h1.get B=some (.row 226 [pv B 0,.slice none 0 0] 0 false))(_hl:B < h1.nx)(a0:RD n 190 [pv B 0] h.fresh=some (.tuple #[],h1))(a1:appendA En (al h1 5 [.int .u8 c]) #[108,108] (.slice none 0 0) (sv h1.nx 0 1 1)=some (sv (h1.nx+1) 0 1 1,(al h1 5 [.int .u8 c]).alloc (.row 5 [.int .u8 c] 1 false)))(a2:SV ((al h1 5 [.int .u8 c]).alloc (.row 5 [.int .u8 c] 1 false)) 108 B 1 (sv (h1.nx+1) 0 1 1) (pt ((al h1 5 [.int .u8 c]).alloc (.row 5 [.int .u8 c] 1 false)) B 226 [pv B 0,sv (h1.nx+1) 0 1 1])):Fn n 230 [pv B 0,.int .u8 c] h .nilIface (pt ((al h1 5 [.int .u8 c]).alloc (.row 5 [.int .u8 c] 1 false)) B 226 [pv B 0,sv (h1.nx+1) 0 1 1]):=
 gfun_ok _ _ _ (show gfun En 5000 orcD n 230 [.e (.tuple #[]) h1,.v (.slice none 0 0),.e (sv (h1.nx+1) 0 1 1) ((al h1 5 [.int .u8 c]).alloc (.row 5 [.int .u8 c] 1 false)),.e undef (pt ((al h1 5 [.int .u8 c]).alloc (.row 5 [.int .u8 c] 1 false)) B 226 [pv B 0,sv (h1.nx+1) 0 1 1])] [pv B 0,.int .u8 c] h [.nilIface]=
  some ([RD n 190 [pv B 0] h.fresh=some (.tuple #[],h1),
   LD h1 108 B 1 (.slice none 0 0),
   appendA En (al h1 5 [.int .u8 c]) #[108,108] (.slice none 0 0) (sv h1.nx 0 1 1)=some (sv (h1.nx+1) 0 1 1,(al h1 5 [.int .u8 c]).alloc (.row 5 [.int .u8 c] 1 false)),
   SV ((al h1 5 [.int .u8 c]).alloc (.row 5 [.int .u8 c] 1 false)) 108 B 1 (sv (h1.nx+1) 0 1 1) (pt ((al h1 5 [.int .u8 c]).alloc (.row 5 [.int .u8 c] 1 false)) B 226 [pv B 0,sv (h1.nx+1) 0 1 1]),
   Value.nilIface=Value.nilIface],pt ((al h1 5 [.int .u8 c]).alloc (.row 5 [.int .u8 c] 1 false)) B 226 [pv B 0,sv (h1.nx+1) 0 1 1]) by kernel_rfl)
  ⟨a0,ld_cell hB (by kernel_rfl) rfl,a1,a2,rfl,trivial⟩
theorem wbB(h h1 h2:Heap)(B b k:Nat)(c:Int)(n:Nat)(hB:h1.get B=some (.row 226 [pv B 0,sv b 0 k k] 0 false))(_hl:B < h1.nx)(hB2:h2.get B=some (.row 226 [pv B 0,sv b 0 k k] 0 false))(a0:RD n 190 [pv B 0] h.fresh=some (.tuple #[],h1))(a1:appendA En (al h1 5 [.int .u8 c]) #[108,108] (sv b 0 k k) (sv h1.nx 0 1 1)=some (sv (h1.nx+1) 0 (k+1) (k+1),h2)):Fn n 230 [pv B 0,.int .u8 c] h .nilIface (pt h2 B 226 [pv B 0,sv (h1.nx+1) 0 (k+1) (k+1)]):=
 fnV (kZ h) [yC a0 (kI (ko hB)),.l 0 108 1,aS 5 [.int .u8 c],yC a1 (kI (ko hB2)),.w 0 108 1 (sv (h1.nx+1) 0 (k+1) (k+1)),.z 0]
end Go.PanE
namespace Go.PanE
open Go.Proofs
/-- What the builder B holds. -/
def BSt(h:Heap)(B:Nat)(l:List UInt8):Prop:=
 B < h.nx∧((l=[]∧h.get B=some (.row 226 [.pointer none,.slice none 0 0] 0 false))∨
  ∃ b,B < b∧h.get B=some (.row 226 [.pointer (some ⟨B,0,none⟩),.slice (some ⟨b,0,none⟩) l.length l.length] 0 false)∧h.get b=some (.row 5 (byC l) 1 false)∧l≠[])
/-- From one memory to a later one: below a number nothing has turned. -/
structure Up(k:Nat)(h g:Heap):Prop where
 nx:h.nx≤g.nx
 wm:min k h.wm≤g.wm
 get:∀ b,b < k→g.get b=h.get b
theorem Up.refl(k:Nat)(h:Heap):Up k h h:=⟨Nat.le_refl _,by omega,fun _ _=>rfl⟩
theorem Up.trans{k:Nat}{h g f:Heap}(a:Up k h g)(b:Up k g f):Up k h f:=
 ⟨Nat.le_trans a.nx b.nx,by have:=a.wm;have:=b.wm;omega,fun c hc=>(b.get c hc).trans (a.get c hc)⟩
theorem Up.alloc{k:Nat}(h:Heap)(o:AObj)(hk:k≤h.nx):Up k h (h.alloc o):=⟨by rw[Heap.nx_alloc];omega,by rw[Heap.wm_alloc];omega,fun b hb=>Heap.get_old h o (by omega)⟩
theorem Up.put{k:Nat}(h:Heap){p:Nat}(o:AObj)(hk:k≤p)(hp:p < h.nx):Up k h (h.put p o):=⟨Nat.le_refl _,by rw[Heap.wm_put];omega,fun b hb=>Heap.get_put_other h p b o hp (by omega)⟩
theorem Up.kill{k:Nat}(h:Heap){p:Nat}(hk:k≤p):Up k h (h.kill p):=⟨Nat.le_refl _,by rw[Heap.wm_kill];omega,fun b hb=>Heap.get_kill_other h (by omega)⟩
theorem orcD_190:orcD 190=some orc190:=by kernel_rfl
theorem orcD_132:orcD 132=some orc132:=by kernel_rfl
theorem cc_new{h:Heap}{B:Nat}{x:Value}(n:Nat)(hB:h.get B=some (.row 226 [.pointer none,x] 0 false)):RD (n+1) 190 [.pointer (some ⟨B,0,none⟩)] h=some (.tuple #[],h.put B (.row 226 [.pointer (some ⟨B,0,none⟩),x] 0 false)):=by
 show runA En orcD (drawn En) 5000 (n+1) 190 _ h=_
 simp only[runA,orcD_190,orc190,hB,Nat.beq_refl,Bool.true_or,cond_true,storeC,setL,oneCell,List.length_cons,List.length_nil,Nat.zero_lt_succ,if_true,List.set_cons_zero]
theorem cc_old{h:Heap}{B:Nat}{x:Value}(n:Nat)(hB:h.get B=some (.row 226 [.pointer (some ⟨B,0,none⟩),x] 0 false)):RD (n+1) 190 [.pointer (some ⟨B,0,none⟩)] h=some (.tuple #[],h):=by
 show runA En orcD (drawn En) 5000 (n+1) 190 _ h=_
 simp only[runA,orcD_190,orc190,hB,Nat.beq_refl,cond_true]
theorem Up.finish{k:Nat}{h g:Heap}{v:Value}(u:Up k (Heap.fresh h) g)(hk:k≤h.nx):Up k h (PanE.finish h v g).2:=by
 unfold PanE.finish
 split
 ·exact Up.refl k h
 ·refine⟨u.nx,?_,u.get⟩
  have:=u.wm
  have e:(Heap.fresh h).wm=h.nx:=rfl
  rw[e] at this
  show min k h.wm≤min h.wm g.wm
  omega
theorem writeByte(h:Heap)(B k:Nat)(l:List UInt8)(c:UInt8)(n:Nat)(hn:2≤n)(S:BSt h B l)(hk:k≤B)(hl:l.length≤5000):
  ∃ h',RD n 230 [.pointer (some ⟨B,0,none⟩),.int .u8 (c.toNat:Int)] h=some (.nilIface,h')∧BSt h' B (l++[c])∧Up k h h':=by
 obtain⟨m,rfl⟩:∃ m,n=m+1+1:=⟨n - 2,by omega⟩
 obtain⟨hlt,S⟩:=S
 have hbeta:∀ g:Heap,g.wm≤B→finish h .nilIface g=(.nilIface,{g with wm:=min h.wm g.wm}):=fun g hg=>finish_wrote (by omega)
 rcases S with⟨rfl,hB⟩|⟨b,hbB,hB,hb,hne⟩
 ·have hB':(Heap.fresh h).get B=some (.row 226 [.pointer none,.slice none 0 0] 0 false):=hB
  have cc:=cc_new m hB'
  generalize hh1:(Heap.fresh h).put B (.row 226 [.pointer (some ⟨B,0,none⟩),.slice none 0 0] 0 false)=h1 at cc
  have n1:h1.nx=h.nx:=by rw[← hh1];rfl
  have g1:h1.get B=some (.row 226 [.pointer (some ⟨B,0,none⟩),.slice none 0 0] 0 false):=by rw[← hh1];exact Heap.get_put_same _ _ _ hlt
  have u1:Up k (Heap.fresh h) h1:=by rw[← hh1];exact Up.put _ _ hk hlt
  have ap:=append_nil (h:=h1.alloc (.row 5 [.int .u8 (c.toNat:Int)] 0 false)) (c:=1) slT108 (Heap.get_new h1 _) (o:=0) (n:=1) (xs:=[.int .u8 (c.toNat:Int)]) rfl rfl (by decide) (by decide)
  have g2:((h1.alloc (.row 5 [.int .u8 (c.toNat:Int)] 0 false)).alloc (.row 5 [.int .u8 (c.toNat:Int)] 1 false)).get B=some (.row 226 [.pointer (some ⟨B,0,none⟩),.slice none 0 0] 0 false):=by
   rw[Heap.get_old _ _ (by rw[Heap.nx_alloc];omega),Heap.get_old _ _ (by omega)];exact g1
  have pth:=wbA h h1 B (c.toNat:Int) (m+1) g1 (by omega) cc ap (st_row 1 g2 (by kernel_rfl) rfl rfl)
  generalize hh2:((h1.alloc (.row 5 [.int .u8 (c.toNat:Int)] 0 false)).alloc (.row 5 [.int .u8 (c.toNat:Int)] 1 false))=h2 at pth g2
  have n2:h2.nx=h.nx+2:=by rw[← hh2,Heap.nx_alloc,Heap.nx_alloc,n1]
  have gb:h2.get (h1.nx+1)=some (.row 5 (byC [c]) 1 false):=by rw[← hh2];exact Heap.get_new _ _
  have u2:Up k h1 h2:=by rw[← hh2];exact(Up.alloc _ _ (by omega)).trans (Up.alloc _ _ (by rw[Heap.nx_alloc];omega))
  refine⟨_,pth.trans (congrArg some (hbeta _ (by rw[Heap.wm_put];omega))),⟨by show B < h2.nx;omega,.inr ⟨h1.nx+1,by omega,?_,?_,by simp⟩⟩,?_⟩
  ·show(h2.put B _).get B=_
   exact Heap.get_put_same _ _ _ (by omega)
  ·show(h2.put B _).get (h1.nx+1)=_
   rw[Heap.get_put_other _ _ _ _ (by omega) (by omega)];exact gb
  ·have u3:=(u1.trans u2).trans (Up.put h2 (.row 226 [.pointer (some ⟨B,0,none⟩),.slice (some ⟨h1.nx+1,0,none⟩) 1 1] 0 false) hk (by omega))
   have:=u3.finish (v:=.nilIface) (by omega)
   rw[hbeta _ (by rw[Heap.wm_put];omega)] at this
   exact this
 ·have hB':(Heap.fresh h).get B=some (.row 226 [.pointer (some ⟨B,0,none⟩),.slice (some ⟨b,0,none⟩) l.length l.length] 0 false):=hB
  have hb':(Heap.fresh h).get b=some (.row 5 (byC l) 1 false):=hb
  have hbl:b < h.nx:=Heap.lt_of_get hb
  have cc:=cc_old m hB'
  have ap:=append_open (h:=(Heap.fresh h).alloc (.row 5 [.int .u8 (c.toNat:Int)] 0 false)) (c:=1) (l:=l.length) (cells:=byC l) slT108 ((Heap.get_old _ _ hbl).trans hb') (by rw[byC_length];omega) (Heap.get_new (Heap.fresh h) _) (o:=0) (n:=1) (xs:=[.int .u8 (c.toNat:Int)]) rfl rfl rfl (by decide) (by omega)
  generalize hh2:(((Heap.fresh h).alloc (.row 5 [.int .u8 (c.toNat:Int)] 0 false)).kill b).alloc (.row 5 (byC l++[.int .u8 (c.toNat:Int)]) 1 false)=h2 at ap
  have n2:h2.nx=h.nx+2:=by rw[← hh2];rfl
  have g2:h2.get B=some (.row 226 [.pointer (some ⟨B,0,none⟩),.slice (some ⟨b,0,none⟩) l.length l.length] 0 false):=by
   rw[← hh2,Heap.get_old _ _ (by rw[Heap.nx_kill,Heap.nx_alloc];show B < h.nx+1;omega),Heap.get_kill_other _ (by omega)];exact(Heap.get_old (Heap.fresh h) _ hlt).trans hB'
  have gb:h2.get ((Heap.fresh h).nx+1)=some (.row 5 (byC (l++[c])) 1 false):=by
   rw[← hh2]
   have:byC (l++[c])=byC l++[.int .u8 (c.toNat:Int)]:=by simp[byC]
   rw[this]
   exact Heap.get_new _ _
  have u2:Up k (Heap.fresh h) h2:=by
   rw[← hh2]
   exact((Up.alloc _ _ (by show k≤h.nx;omega)).trans (Up.kill _ (by omega))).trans (Up.alloc _ _ (by rw[Heap.nx_kill,Heap.nx_alloc];show k≤h.nx+1;omega))
  have pth:=wbB h (Heap.fresh h) h2 B b l.length (c.toNat:Int) (m+1) hB' hlt g2 cc ap
  have hbe:=hbeta (h2.put B (.row 226 [.pointer (some ⟨B,0,none⟩),.slice (some ⟨(Heap.fresh h).nx+1,0,none⟩) (l.length+1) (l.length+1)] 0 false)) (by rw[Heap.wm_put];omega)
  have hN:(Heap.fresh h).nx=h.nx:=rfl
  refine⟨_,pth.trans (congrArg some hbe),⟨by show B < h2.nx;omega,.inr ⟨(Heap.fresh h).nx+1,by omega,?_,?_,by simp⟩⟩,?_⟩
  ·show(h2.put B _).get B=_
   rw[Heap.get_put_same _ _ _ (by omega)];simp
  ·show(h2.put B _).get ((Heap.fresh h).nx+1)=_
   rw[Heap.get_put_other _ _ _ _ (by omega) (by omega)];exact gb
  ·have u3:=u2.trans (Up.put h2 (.row 226 [.pointer (some ⟨B,0,none⟩),.slice (some ⟨(Heap.fresh h).nx+1,0,none⟩) (l.length+1) (l.length+1)] 0 false) hk (by omega))
   have:=u3.finish (v:=.nilIface) (by omega)
   rw[hbe] at this
   exact this
theorem bytes8_byC(l:List UInt8):bytes8 (byC l)=some l:=bytes8_map l
/-- String. -/
theorem builderString(h:Heap)(B k:Nat)(l:List UInt8)(n:Nat)(hn:1≤n)(S:BSt h B l)(hk:k≤B)(hl:l.length≤5000):
  ∃ h',RD n 132 [.pointer (some ⟨B,0,none⟩)] h=some (.string ⟨⟨l⟩⟩,h')∧Up k h h':=by
 obtain⟨m,rfl⟩:∃ m,n=m+1:=⟨n - 1,by omega⟩
 obtain⟨hlt,S⟩:=S
 rcases S with⟨rfl,hB⟩|⟨b,hbB,hB,hb,hne⟩
 ·refine⟨h,?_,Up.refl _ _⟩
  show runA En orcD (drawn En) 5000 (m+1) 132 _ h=_
  simp only[runA,orcD_132,orc132,hB]
 ·refine⟨h.put b (.row 5 (byC l) 1 true),?_,Up.put _ _ (by omega) (Heap.lt_of_get hb)⟩
  have h0:0 < l.length:=List.length_pos_iff.2 hne
  have c:(Nat.blt 0 l.length && Nat.ble l.length l.length && Nat.beq ((byC l).take l.length).length l.length && Nat.ble l.length 140737488355328)=true:=by
   have e1:Nat.blt 0 l.length=true:=by rw[Nat.blt_eq];exact h0
   have e2:Nat.ble l.length l.length=true:=by rw[Nat.ble_eq];exact Nat.le_refl _
   have e3:Nat.ble l.length 140737488355328=true:=by rw[Nat.ble_eq];omega
   have e4:Nat.beq ((byC l).take l.length).length l.length=true:=by
    rw[List.take_of_length_le (by rw[byC_length];omega),byC_length];exact Nat.beq_refl _
   rw[e1,e2,e3,e4];rfl
  have t:(byC l).take l.length=byC l:=List.take_of_length_le (by rw[byC_length];omega)
  rw[t] at c
  show runA En orcD (drawn En) 5000 (m+1) 132 _ h=_
  simp only[runA,orcD_132,orc132,hB,hb,t,c,cond_true,bytes8_byC]
end Go.PanE
namespace Go.PanE
open Go.Proofs
noncomputable section
abbrev x6_1:List Value:=[iv 0,iv 0,.string ⟨#[]⟩,iv 0]
abbrev x6_2(s:ByteArray)(at_ B:Nat)(o:ByteArray)(i:Nat):List (Nat×Value):=[(0,.string s),(1,iv (at_:Int)),(4,pv B 0),(6,.string o),(7,iv (i:Int))]
abbrev x6_3(s:ByteArray)(B i:Nat):List (Nat×Value):=[(0,.string s),(4,pv B 0),(5,iv (i:Int))]
abbrev x6_4(s:ByteArray)(at_:Nat)(h:Heap):List (Nat×Value):=[(0,.string s),(1,iv (at_:Int)),(4,pv h.nx 0),(5,iv 0),(6,.string ⟨#[]⟩),(8,iv (at_:Int)),(9,iv ((at_:Int)+1)),(7,iv ((at_:Int)+1))]
abbrev x6_5:List Value:=[.pointer none,.slice none 0 0]
abbrev x6_6(o:ByteArray)(at_:Nat):List Value:=[iv 2,iv 0,.string o,iv (at_:Int)]
theorem txA_wr(h h2:Heap)(s:ByteArray)(B i:Nat)(n:Nat)(_h1:i < s.data.toList.length)(_h2:s.data.toList.length < 4611686018427387904)(a0:decide (((i:Int):Int) < s.data.toList.length)=true)(a1:(((bAt s (i:Int):Int):Int) !=34)=true)(a2:RD n 230 [pv B 0,.int .u8 (bAt s (i:Int):Int)] h=some (.nilIface,h2)):Bd n 38 [1,1,0,1,0,0] Tryz.f219 (x6_3 s B i) h .normal [(0,.string s),(4,pv B 0),(5,iv ((i:Int)+1))] h2:=
 bdF (kZ h) [yT a0,yI 9 s (i:Int),yT a1,yI 9 s (i:Int),yC a2 (kZ h2),yW ((i:Int)+1),.z 0]
theorem txA_fin1(h h2:Heap)(s t:ByteArray)(B i:Nat)(n:Nat)(_h1:i < s.data.toList.length)(_h2:s.data.toList.length < 4611686018427387904)(a0:decide (((i:Int):Int) < s.data.toList.length)=true)(a1:(((bAt s (i:Int):Int):Int) !=34)=false)(a2:(((i:Int)+1:Int)==s.data.toList.length)=true)(a3:RD n 132 [pv B 0] h=some (.string t,h2)):Bd n 38 [1,1,0,1,0,0] Tryz.f219 (x6_3 s B i) h .ret [(2,.string t),(3,iv ((i:Int)+1))] h2:=
 bdF (kZ h) [yT a0,yI 9 s (i:Int),yF a1,yW ((i:Int)+1),yT a2,yC a3 (kZ h2),yW ((i:Int)+1),.z 0]
theorem txA_fin2(h h2:Heap)(s t:ByteArray)(B i:Nat)(n:Nat)(_h1:i < s.data.toList.length)(_h2:s.data.toList.length < 4611686018427387904)(_h3:i+1 < s.data.toList.length)(a0:decide (((i:Int):Int) < s.data.toList.length)=true)(a1:(((bAt s (i:Int):Int):Int) !=34)=false)(a2:(((i:Int)+1:Int)==s.data.toList.length)=false)(a3:(((bAt s ((i:Int)+1):Int):Int) !=34)=true)(a4:RD n 132 [pv B 0] h=some (.string t,h2)):Bd n 38 [1,1,0,1,0,0] Tryz.f219 (x6_3 s B i) h .ret [(2,.string t),(3,iv ((i:Int)+1))] h2:=
 bdF (kZ h) [yT a0,yI 9 s (i:Int),yF a1,yW ((i:Int)+1),yF a2,yW ((i:Int)+1),yI 9 s ((i:Int)+1),yT a3,yC a4 (kZ h2),yW ((i:Int)+1),.z 0]
theorem txA_dbl(h h2:Heap)(s:ByteArray)(B i:Nat)(n:Nat)(_h1:i < s.data.toList.length)(_h2:s.data.toList.length < 4611686018427387904)(_h3:i+1 < s.data.toList.length)(a0:decide (((i:Int):Int) < s.data.toList.length)=true)(a1:(((bAt s (i:Int):Int):Int) !=34)=false)(a2:(((i:Int)+1:Int)==s.data.toList.length)=false)(a3:(((bAt s ((i:Int)+1):Int):Int) !=34)=false)(a4:RD n 230 [pv B 0,.int .u8 34] h=some (.nilIface,h2)):Bd n 38 [1,1,0,1,0,0] Tryz.f219 (x6_3 s B i) h .normal [(0,.string s),(4,pv B 0),(5,iv (((i:Int)+1)+1))] h2:=
 bdF (kZ h) [yT a0,yI 9 s (i:Int),yF a1,yW ((i:Int)+1),yF a2,yW ((i:Int)+1),yI 9 s ((i:Int)+1),yF a3,yW ((i:Int)+1),yC a4 (kZ h2),yW (((i:Int)+1)+1),.z 0]
theorem txA_end(h:Heap)(s:ByteArray)(B i:Nat)(n:Nat)(a0:decide (((i:Int):Int) < s.data.toList.length)=false):Bd n 38 [1,1,0,1,0,0] Tryz.f219 (x6_3 s B i) h (.exit 0) [] h:=
 bdF (kZ h) [yF a0]
theorem txA_none(h h2:Heap)(s:ByteArray)(n:Nat)(a0:Lf n 38 [1,1,0,1,0,0] Tryz.f219 [(0,.string s),(2,.string ⟨#[]⟩),(3,iv 0),(4,pv h.nx 0),(5,iv 1)] (al h.fresh 226 x6_5) (.exit 0) [] h2):Fn n 219 [.string s] h (.tuple #[.string ⟨#[]⟩,iv 0]) h2:=
 fnT (kZ h) [aS 226 x6_5,yS a0 (kZ h2),.z 0]
theorem txA_some(h h2:Heap)(s t:ByteArray)(e:Int)(n:Nat)(a0:Lf n 38 [1,1,0,1,0,0] Tryz.f219 [(0,.string s),(2,.string ⟨#[]⟩),(3,iv 0),(4,pv h.nx 0),(5,iv 1)] (al h.fresh 226 x6_5) .ret [(2,.string t),(3,iv e)] h2):Fn n 219 [.string s] h (.tuple #[.string t,iv e]) h2:=
 fnT (kZ h) [aS 226 x6_5,yS a0 (kZ h2),.z 0]
theorem txB_wr(h:Heap)(s o:ByteArray)(B i at_:Nat)(n:Nat)(_h1:i < s.data.toList.length)(_h2:s.data.toList.length < 4611686018427387904)(_h3:o.size < 4611686018427387904)(_h4:at_ < i)(_h5:o.size+(cutS s (i:Int) ((i:Int)+1)).size≤9223372036854775807)(a0:decide (((i:Int):Int) < s.data.toList.length)=true)(a1:(((bAt s (i:Int):Int):Int) !=34)=true)(a2:Value.string (o++(cutS s (i:Int) ((i:Int)+1)))=Value.string (o++cutS s (i:Int) ((i:Int)+1))):Bd n 51 [1,1,0,1,0,0] Tryz.f149 (x6_2 s at_ B o i) h .normal [(0,.string s),(1,iv (at_:Int)),(4,pv B 0),(6,.string (o++cutS s (i:Int) ((i:Int)+1))),(7,iv ((i:Int)+1))] h:=
 bdF (kZ h) [yT a0,yI 9 s (i:Int),yT a1,yW ((i:Int)+1),cB 9 s (i:Int) ((i:Int)+1),.x [.v (.string (o++(cutS s (i:Int) ((i:Int)+1))))] fun _=>[⟨strBin .add o (cutS s (i:Int) ((i:Int)+1))=some (.string (o++(cutS s (i:Int) ((i:Int)+1)))),str_add (by omega)⟩],yW ((i:Int)+1),.x [] fun _=>[⟨Value.string s=Value.string s,rfl⟩],.x [] fun _=>[⟨iv (at_:Int)=iv (at_:Int),rfl⟩],.x [] fun _=>[⟨pv B 0=pv B 0,rfl⟩],yH a2,.z 4]
theorem txB_dbl(h:Heap)(s o:ByteArray)(B i at_:Nat)(n:Nat)(_h1:i < s.data.toList.length)(_h2:s.data.toList.length < 4611686018427387904)(_h3:o.size < 4611686018427387904)(_h4:at_ < i)(_h6:i+1 < s.data.toList.length)(_h5:o.size+(⟨#[34]⟩:ByteArray).size≤9223372036854775807)(a0:decide (((i:Int):Int) < s.data.toList.length)=true)(a1:(((bAt s (i:Int):Int):Int) !=34)=false)(a2:decide (((i:Int)+1:Int) < s.data.toList.length)=true)(a3:(((bAt s ((i:Int)+1):Int):Int)==34)=true):Bd n 51 [1,1,0,1,0,0] Tryz.f149 (x6_2 s at_ B o i) h .normal [(0,.string s),(1,iv (at_:Int)),(4,pv B 0),(6,.string (o++⟨#[34]⟩)),(7,iv (((i:Int)+1)+1))] h:=
 bdF (kZ h) [yT a0,yI 9 s (i:Int),yF a1,yW ((i:Int)+1),yT a2,yW ((i:Int)+1),yI 9 s ((i:Int)+1),yT a3,.x [.v (.string (o++⟨#[34]⟩))] fun _=>[⟨strBin .add o ⟨#[34]⟩=some (.string (o++⟨#[34]⟩)),str_add (by omega)⟩],yW ((i:Int)+1),yW (((i:Int)+1)+1),.z 0]
theorem txB_fin1(h:Heap)(s o:ByteArray)(B i at_:Nat)(n:Nat)(_h1:i < s.data.toList.length)(_h2:s.data.toList.length < 4611686018427387904)(_h3:o.size < 4611686018427387904)(_h4:at_ < i)(hB:h.get B=some (.row 199 x6_1 0 false))(a0:decide (((i:Int):Int) < s.data.toList.length)=true)(a1:(((bAt s (i:Int):Int):Int) !=34)=false)(a2:decide (((i:Int)+1:Int) < s.data.toList.length)=false)(a3:iv (((i:Int)+1) - (at_:Int))=iv ((((i:Int))+1) - (at_:Int))):Bd n 51 [1,1,0,1,0,0] Tryz.f149 (x6_2 s at_ B o i) h .ret [(4,pv B 0),(5,iv ((((i:Int))+1) - (at_:Int)))] (pt h B 199 (x6_6 o at_)):=
 bdF (kI (ko hB)) [yT a0,yI 9 s (i:Int),yF a1,yW ((i:Int)+1),yF a2,yW ((i:Int)+1),yW (((i:Int)+1) - (at_:Int)),.w 0 199 0 (.agg #[iv 2,iv 0,.string o,iv (at_:Int)]),.x [] fun _=>[⟨pv B 0=pv B 0,rfl⟩],yH a3]
theorem txB_fin2(h:Heap)(s o:ByteArray)(B i at_:Nat)(n:Nat)(_h1:i < s.data.toList.length)(_h2:s.data.toList.length < 4611686018427387904)(_h3:o.size < 4611686018427387904)(_h4:at_ < i)(_h6:i+1 < s.data.toList.length)(hB:h.get B=some (.row 199 x6_1 0 false))(a0:decide (((i:Int):Int) < s.data.toList.length)=true)(a1:(((bAt s (i:Int):Int):Int) !=34)=false)(a2:decide (((i:Int)+1:Int) < s.data.toList.length)=true)(a3:(((bAt s ((i:Int)+1):Int):Int)==34)=false)(a4:iv (((i:Int)+1) - (at_:Int))=iv ((((i:Int))+1) - (at_:Int))):Bd n 51 [1,1,0,1,0,0] Tryz.f149 (x6_2 s at_ B o i) h .ret [(4,pv B 0),(5,iv ((((i:Int))+1) - (at_:Int)))] (pt h B 199 (x6_6 o at_)):=
 bdF (kI (ko hB)) [yT a0,yI 9 s (i:Int),yF a1,yW ((i:Int)+1),yT a2,yW ((i:Int)+1),yI 9 s ((i:Int)+1),yF a3,yW ((i:Int)+1),yW (((i:Int)+1) - (at_:Int)),.w 0 199 0 (.agg #[iv 2,iv 0,.string o,iv (at_:Int)]),.x [] fun _=>[⟨pv B 0=pv B 0,rfl⟩],yH a4]
theorem txB_end(h:Heap)(s o:ByteArray)(B i at_:Nat)(n:Nat)(a0:decide (((i:Int):Int) < s.data.toList.length)=false):Bd n 51 [1,1,0,1,0,0] Tryz.f149 (x6_2 s at_ B o i) h (.exit 0) [(4,pv B 0)] h:=
 bdF (kZ h) [yF a0,.z 0]
theorem txB_some(h:Heap)(s o:ByteArray)(at_:Nat)(e:Int)(n:Nat)(_h1:at_ < 4611686018427387904)(a0:Lf n 51 [1,1,0,1,0,0] Tryz.f149 (x6_4 s at_ h) (al h.fresh 199 x6_1) .ret [(4,pv h.nx 0),(5,iv e)] (pt (al h.fresh 199 x6_1) h.nx 199 (x6_6 o at_))):Fn n 149 [.string s,iv (at_:Int)] h (.tuple #[.agg #[iv 2,iv 0,.string o,iv (at_:Int)],iv e]) (pt (al h.fresh 199 x6_1) h.nx 199 (x6_6 o at_)):=
 fnT (kZ h) [aS 199 x6_1,yW ((at_:Int)+1),yS a0 (kI (ko (show(pt (al h.fresh 199 x6_1) h.nx 199 (x6_6 o at_)).get h.nx=_ from(gP (show h.nx < h.nx+1 by omega))))),.r 0 199 4,.z 1]
theorem txB_none(h:Heap)(s:ByteArray)(at_:Nat)(n:Nat)(_h1:at_ < 4611686018427387904)(a0:Lf n 51 [1,1,0,1,0,0] Tryz.f149 (x6_4 s at_ h) (al h.fresh 199 x6_1) (.exit 0) [(4,pv h.nx 0)] (al h.fresh 199 x6_1)):Fn n 149 [.string s,iv (at_:Int)] h (.tuple #[.agg #[iv 0,iv 0,.string ⟨#[]⟩,iv 0],iv 0]) (pt (al h.fresh 199 x6_1) h.nx 199 x6_1):=
 fnT (kZ h) [aS 199 x6_1,yW ((at_:Int)+1),yS a0 (kI (ko (show(al h.fresh 199 x6_1).get h.nx=_ from gN))),.w 0 199 0 (.agg #[iv 0,iv 0,.string ⟨#[]⟩,iv 0]),.r 0 199 4,.z 1]
end
end Go.PanE
namespace Go.PanE
open Go.Proofs
noncomputable section
abbrev x2_1(L:List UInt8):AObj:=.row 5 (byC L) 1 false
abbrev x2_2(h:Heap)(N i:Nat):List (Nat×Value):=[(3,sv h.nx 0 N N),(8,sv h.nx 0 N N),(9,iv (N:Int)),(10,iv (i:Int))]
abbrev x2_3(L:List UInt8)(i:Nat)(x:UInt8):AObj:=.row 5 (byC (L.set i (x - 32))) 1 false
abbrev x2_4(h:Heap)(N i:Nat):List (Nat×Value):=[(3,sv h.nx 0 N N),(8,sv h.nx 0 N N),(9,iv (N:Int)),(10,iv ((i:Int)+1))]
abbrev x2_5(s:ByteArray):AObj:=.row 5 (byC s.data.toList) 1 false
abbrev x2_6(h:Heap)(N i:Nat):List (Nat×Value):=[(3,sv h.nx 0 N N),(4,iv (i:Int))]
abbrev x2_7(h:Heap)(N i:Nat):List (Nat×Value):=[(3,sv h.nx 0 N N),(4,iv ((i:Int)+1))]
theorem upA_lo(h:Heap)(L:List UInt8)(i N:Nat)(x:UInt8)(n:Nat)(_hN:N=L.length)(_hi:i < N)(_hs:N < 4611686018427387904)(_hx:L.drop i=x::L.drop (i+1))(_hb:x.toNat < 256)(a0:decide (((i:Int):Int) < (N:Int))=true)(a1:decide (((x.toNat:Int):Int)≥97)=false):Bd n 30 [1,1,0,1,0,0] Tryz.f221 (x2_2 h N i) (h.fresh.alloc (x2_1 L)) .normal (x2_4 h N i) (h.fresh.alloc (x2_1 L)):=
 bdF (kZ (h.fresh.alloc (x2_1 L))) [yT a0,iA 108 5 1 h.nx N i,.x [.v (.int .u8 (x.toNat:Int))] fun _=>[⟨LD (h.fresh.alloc (x2_1 L)) 5 h.nx (0+i * 1) (.int .u8 (x.toNat:Int)),ld_cell (Heap.get_new _ _) (by kernel_rfl) (by rw[Nat.zero_add,Nat.mul_one];exact byC_at _hx)⟩],yF a1,yW ((i:Int)+1),.z 0]
theorem upA_hi(h:Heap)(L:List UInt8)(i N:Nat)(x:UInt8)(n:Nat)(_hN:N=L.length)(_hi:i < N)(_hs:N < 4611686018427387904)(_hx:L.drop i=x::L.drop (i+1))(_hb:x.toNat < 256)(a0:decide (((i:Int):Int) < (N:Int))=true)(a1:decide (((x.toNat:Int):Int)≥97)=true)(a2:decide (((x.toNat:Int):Int)≤122)=false):Bd n 30 [1,1,0,1,0,0] Tryz.f221 (x2_2 h N i) (h.fresh.alloc (x2_1 L)) .normal (x2_4 h N i) (h.fresh.alloc (x2_1 L)):=
 bdF (kZ (h.fresh.alloc (x2_1 L))) [yT a0,iA 108 5 1 h.nx N i,.x [.v (.int .u8 (x.toNat:Int))] fun _=>[⟨LD (h.fresh.alloc (x2_1 L)) 5 h.nx (0+i * 1) (.int .u8 (x.toNat:Int)),ld_cell (Heap.get_new _ _) (by kernel_rfl) (by rw[Nat.zero_add,Nat.mul_one];exact byC_at _hx)⟩],yT a1,yF a2,yW ((i:Int)+1),.z 0]
theorem upA_up(h:Heap)(L:List UInt8)(i N:Nat)(x:UInt8)(n:Nat)(_hN:N=L.length)(_hi:i < N)(_hs:N < 4611686018427387904)(_hx:L.drop i=x::L.drop (i+1))(_hb:x.toNat < 256)(a0:decide (((i:Int):Int) < (N:Int))=true)(a1:decide (((x.toNat:Int):Int)≥97)=true)(a2:decide (((x.toNat:Int):Int)≤122)=true)(a3:SV (h.fresh.alloc (x2_1 L)) 5 h.nx (0+i * 1) (.int .u8 (((x.toNat:Int) - 97)+65)) (h.fresh.alloc (x2_3 L i x))):Bd n 30 [1,1,0,1,0,0] Tryz.f221 (x2_2 h N i) (h.fresh.alloc (x2_1 L)) .normal (x2_4 h N i) (h.fresh.alloc (x2_3 L i x)):=
 body_of (show gsee En (RD n) 30 5000 (sub [1,1,0,1,0,0] (bodyOf Tryz.f221)) [.b true,.v (pv h.nx (0+i * 1)),.v (.int .u8 (x.toNat:Int)),.b true,.b true,.v (.int .u8 ((x.toNat:Int) - 97)),.v (.int .u8 (((x.toNat:Int) - 97)+65)),.v (pv h.nx (0+i * 1)),.e undef (h.fresh.alloc (x2_3 L i x)),.v (iv ((i:Int)+1))] (x2_2 h N i) (h.fresh.alloc (x2_1 L)) (x2_4 h N i)=
  some ([decide (((i:Int):Int) < (N:Int))=true,
   indexAddrA En 108 (sv h.nx 0 N N) (iv (i:Int))=some (pv h.nx (0+i * 1)),
   LD (h.fresh.alloc (x2_1 L)) 5 h.nx (0+i * 1) (.int .u8 (x.toNat:Int)),
   decide (((x.toNat:Int):Int)≥97)=true,
   decide (((x.toNat:Int):Int)≤122)=true,
   some (Value.int .u8 (IntKind.u8.wrap ((x.toNat:Int) - 97)))=some (.int .u8 ((x.toNat:Int) - 97)),
   some (Value.int .u8 (IntKind.u8.wrap (((x.toNat:Int) - 97)+65)))=some (.int .u8 (((x.toNat:Int) - 97)+65)),
   indexAddrA En 108 (sv h.nx 0 N N) (iv (i:Int))=some (pv h.nx (0+i * 1)),
   SV (h.fresh.alloc (x2_1 L)) 5 h.nx (0+i * 1) (.int .u8 (((x.toNat:Int) - 97)+65)) (h.fresh.alloc (x2_3 L i x)),
   WR ((i:Int)+1),
   sv h.nx 0 N N=sv h.nx 0 N N,
   sv h.nx 0 N N=sv h.nx 0 N N,
   iv (N:Int)=iv (N:Int),
   iv ((i:Int)+1)=iv ((i:Int)+1)],.normal,h.fresh.alloc (x2_3 L i x)) by kernel_rfl)
  ⟨a0,idxA_nat (e:=5) (by kernel_rfl) (by kernel_rfl) (by first|omega|(simp at *;omega)),ld_cell (Heap.get_new _ _) (by kernel_rfl) (by rw[Nat.zero_add,Nat.mul_one];exact byC_at _hx),a1,a2,add_u8 (by first|omega|(simp at *;omega)) (by first|omega|(simp at *;omega)),add_u8 (by first|omega|(simp at *;omega)) (by first|omega|(simp at *;omega)),idxA_nat (e:=5) (by kernel_rfl) (by kernel_rfl) (by first|omega|(simp at *;omega)),a3,add_i64 (by first|omega|(simp at *;omega)) (by first|omega|(simp at *;omega)),rfl,rfl,rfl,rfl,trivial⟩
theorem upA_end(h:Heap)(L:List UInt8)(i N:Nat)(n:Nat)(a0:decide (((i:Int):Int) < (N:Int))=false):Bd n 30 [1,1,0,1,0,0] Tryz.f221 (x2_2 h N i) (h.fresh.alloc (x2_1 L)) (.exit 0) [(3,sv h.nx 0 N N)] (h.fresh.alloc (x2_1 L)):=
 bdF (kZ (h.fresh.alloc (x2_1 L))) [yF a0,.z 0]
theorem upA_p(h:Heap)(s:ByteArray)(L:List UInt8)(N:Nat)(n:Nat)(_hs:s.data.toList.length < 140737488355328)(a0:Lf n 30 [1,1,0,1,0,0] Tryz.f221 [(0,.string s),(2,.string ⟨#[]⟩),(6,.string s),(7,sv h.nx 0 s.data.toList.length s.data.toList.length),(3,sv h.nx 0 s.data.toList.length s.data.toList.length),(8,sv h.nx 0 s.data.toList.length s.data.toList.length),(9,iv s.data.toList.length),(10,iv 0)] (h.fresh.alloc (x2_5 s)) (.exit 0) [(3,sv h.nx 0 N N)] (h.fresh.alloc (x2_1 L)))(a1:conv En (h.fresh.alloc (x2_1 L)) 108 9 (sv h.nx 0 N N)=some (.string ⟨⟨L⟩⟩)):Fn n 221 [.string s] h (.string ⟨⟨L⟩⟩) (h.fresh.alloc (x2_1 L)):=
 fnV (kZ h) [.x [.o (fun k=>sv k 0 s.data.toList.length s.data.toList.length) (x2_5 s)] fun _=>[⟨strObj s=some (fun k=>sv k 0 s.data.toList.length s.data.toList.length,(x2_5 s)),strObj_byC _ (by omega)⟩],.a 5 (byC s.data.toList) 1 false,yS a0 (kZ (h.fresh.alloc (x2_1 L))),yE a1,.z 0]
theorem upB_lo(h:Heap)(L:List UInt8)(i N:Nat)(x:UInt8)(n:Nat)(_hN:N=L.length)(_hi:i < N)(_hs:N < 4611686018427387904)(_hx:L.drop i=x::L.drop (i+1))(_hb:x.toNat < 256)(a0:decide (((i:Int):Int) < N)=true)(a1:decide (((x.toNat:Int):Int)≥97)=false):Bd n 33 [1,1,0,1,0,0] Tryz.f148 (x2_6 h N i) (h.fresh.alloc (x2_1 L)) .normal (x2_7 h N i) (h.fresh.alloc (x2_1 L)):=
 bdF (kZ (h.fresh.alloc (x2_1 L))) [yT a0,iA 108 5 1 h.nx N i,.x [.v (.int .u8 (x.toNat:Int))] fun _=>[⟨LD (h.fresh.alloc (x2_1 L)) 5 h.nx (0+i * 1) (.int .u8 (x.toNat:Int)),ld_cell (Heap.get_new _ _) (by kernel_rfl) (by rw[Nat.zero_add,Nat.mul_one];exact byC_at _hx)⟩],yF a1,yW ((i:Int)+1),.z 0]
theorem upB_hi(h:Heap)(L:List UInt8)(i N:Nat)(x:UInt8)(n:Nat)(_hN:N=L.length)(_hi:i < N)(_hs:N < 4611686018427387904)(_hx:L.drop i=x::L.drop (i+1))(_hb:x.toNat < 256)(a0:decide (((i:Int):Int) < N)=true)(a1:decide (((x.toNat:Int):Int)≥97)=true)(a2:decide (((x.toNat:Int):Int)≤122)=false):Bd n 33 [1,1,0,1,0,0] Tryz.f148 (x2_6 h N i) (h.fresh.alloc (x2_1 L)) .normal (x2_7 h N i) (h.fresh.alloc (x2_1 L)):=
 bdF (kZ (h.fresh.alloc (x2_1 L))) [yT a0,iA 108 5 1 h.nx N i,.x [.v (.int .u8 (x.toNat:Int))] fun _=>[⟨LD (h.fresh.alloc (x2_1 L)) 5 h.nx (0+i * 1) (.int .u8 (x.toNat:Int)),ld_cell (Heap.get_new _ _) (by kernel_rfl) (by rw[Nat.zero_add,Nat.mul_one];exact byC_at _hx)⟩],yT a1,iA 108 5 1 h.nx N i,.x [.v (.int .u8 (x.toNat:Int))] fun _=>[⟨LD (h.fresh.alloc (x2_1 L)) 5 h.nx (0+i * 1) (.int .u8 (x.toNat:Int)),ld_cell (Heap.get_new _ _) (by kernel_rfl) (by rw[Nat.zero_add,Nat.mul_one];exact byC_at _hx)⟩],yF a2,yW ((i:Int)+1),.z 0]
theorem upB_up(h:Heap)(L:List UInt8)(i N:Nat)(x:UInt8)(n:Nat)(_hN:N=L.length)(_hi:i < N)(_hs:N < 4611686018427387904)(_hx:L.drop i=x::L.drop (i+1))(_hb:x.toNat < 256)(a0:decide (((i:Int):Int) < N)=true)(a1:decide (((x.toNat:Int):Int)≥97)=true)(a2:decide (((x.toNat:Int):Int)≤122)=true)(a3:SV (h.fresh.alloc (x2_1 L)) 5 h.nx (0+i * 1) (.int .u8 ((x.toNat:Int) - 32)) (h.fresh.alloc (x2_3 L i x))):Bd n 33 [1,1,0,1,0,0] Tryz.f148 (x2_6 h N i) (h.fresh.alloc (x2_1 L)) .normal (x2_7 h N i) (h.fresh.alloc (x2_3 L i x)):=
 body_of (show gsee En (RD n) 33 5000 (sub [1,1,0,1,0,0] (bodyOf Tryz.f148)) [.b true,.v (pv h.nx (0+i * 1)),.v (.int .u8 (x.toNat:Int)),.b true,.v (pv h.nx (0+i * 1)),.v (.int .u8 (x.toNat:Int)),.b true,.v (pv h.nx (0+i * 1)),.v (.int .u8 (x.toNat:Int)),.v (.int .u8 ((x.toNat:Int) - 32)),.v (pv h.nx (0+i * 1)),.e undef (h.fresh.alloc (x2_3 L i x)),.v (iv ((i:Int)+1))] (x2_6 h N i) (h.fresh.alloc (x2_1 L)) (x2_7 h N i)=
  some ([decide (((i:Int):Int) < N)=true,
   indexAddrA En 108 (sv h.nx 0 N N) (iv (i:Int))=some (pv h.nx (0+i * 1)),
   LD (h.fresh.alloc (x2_1 L)) 5 h.nx (0+i * 1) (.int .u8 (x.toNat:Int)),
   decide (((x.toNat:Int):Int)≥97)=true,
   indexAddrA En 108 (sv h.nx 0 N N) (iv (i:Int))=some (pv h.nx (0+i * 1)),
   LD (h.fresh.alloc (x2_1 L)) 5 h.nx (0+i * 1) (.int .u8 (x.toNat:Int)),
   decide (((x.toNat:Int):Int)≤122)=true,
   indexAddrA En 108 (sv h.nx 0 N N) (iv (i:Int))=some (pv h.nx (0+i * 1)),
   LD (h.fresh.alloc (x2_1 L)) 5 h.nx (0+i * 1) (.int .u8 (x.toNat:Int)),
   some (Value.int .u8 (IntKind.u8.wrap ((x.toNat:Int) - 32)))=some (.int .u8 ((x.toNat:Int) - 32)),
   indexAddrA En 108 (sv h.nx 0 N N) (iv (i:Int))=some (pv h.nx (0+i * 1)),
   SV (h.fresh.alloc (x2_1 L)) 5 h.nx (0+i * 1) (.int .u8 ((x.toNat:Int) - 32)) (h.fresh.alloc (x2_3 L i x)),
   WR ((i:Int)+1),
   sv h.nx 0 N N=sv h.nx 0 N N,
   iv ((i:Int)+1)=iv ((i:Int)+1)],.normal,h.fresh.alloc (x2_3 L i x)) by kernel_rfl)
  ⟨a0,idxA_nat (e:=5) (by kernel_rfl) (by kernel_rfl) (by first|omega|(simp at *;omega)),ld_cell (Heap.get_new _ _) (by kernel_rfl) (by rw[Nat.zero_add,Nat.mul_one];exact byC_at _hx),a1,idxA_nat (e:=5) (by kernel_rfl) (by kernel_rfl) (by first|omega|(simp at *;omega)),ld_cell (Heap.get_new _ _) (by kernel_rfl) (by rw[Nat.zero_add,Nat.mul_one];exact byC_at _hx),a2,idxA_nat (e:=5) (by kernel_rfl) (by kernel_rfl) (by first|omega|(simp at *;omega)),ld_cell (Heap.get_new _ _) (by kernel_rfl) (by rw[Nat.zero_add,Nat.mul_one];exact byC_at _hx),add_u8 (by first|omega|(simp at *;omega)) (by first|omega|(simp at *;omega)),idxA_nat (e:=5) (by kernel_rfl) (by kernel_rfl) (by first|omega|(simp at *;omega)),a3,add_i64 (by first|omega|(simp at *;omega)) (by first|omega|(simp at *;omega)),rfl,rfl,trivial⟩
theorem upB_end(h:Heap)(L:List UInt8)(i N:Nat)(n:Nat)(a0:decide (((i:Int):Int) < N)=false):Bd n 33 [1,1,0,1,0,0] Tryz.f148 (x2_6 h N i) (h.fresh.alloc (x2_1 L)) (.exit 0) [(3,sv h.nx 0 N N)] (h.fresh.alloc (x2_1 L)):=
 bdF (kZ (h.fresh.alloc (x2_1 L))) [yF a0,.z 0]
theorem upB_p(h:Heap)(s:ByteArray)(L:List UInt8)(N:Nat)(n:Nat)(_hs:s.data.toList.length < 140737488355328)(a0:Lf n 33 [1,1,0,1,0,0] Tryz.f148 [(0,.string s),(2,.string ⟨#[]⟩),(5,.string s),(6,sv h.nx 0 s.data.toList.length s.data.toList.length),(3,sv h.nx 0 s.data.toList.length s.data.toList.length),(4,iv 0)] (h.fresh.alloc (x2_5 s)) (.exit 0) [(3,sv h.nx 0 N N)] (h.fresh.alloc (x2_1 L)))(a1:conv En (h.fresh.alloc (x2_1 L)) 108 9 (sv h.nx 0 N N)=some (.string ⟨⟨L⟩⟩)):Fn n 148 [.string s] h (.string ⟨⟨L⟩⟩) (h.fresh.alloc (x2_1 L)):=
 fnV (kZ h) [.x [.o (fun k=>sv k 0 s.data.toList.length s.data.toList.length) (x2_5 s)] fun _=>[⟨strObj s=some (fun k=>sv k 0 s.data.toList.length s.data.toList.length,(x2_5 s)),strObj_byC _ (by omega)⟩],.a 5 (byC s.data.toList) 1 false,yS a0 (kZ (h.fresh.alloc (x2_1 L))),yE a1,.z 0]
end
end Go.PanE
namespace Go.PanE
open Go.Proofs
noncomputable section
abbrev x0_1(s:ByteArray)(i:Nat):List (Nat×Value):=[(0,.string s),(1,.func (.func 218) #[] #[]),(5,iv (i:Int))]
abbrev x0_2(s:ByteArray)(i:Nat):List (Nat×Value):=[(0,.string s),(1,.func (.func 220) #[] #[]),(5,iv (i:Int))]
theorem run218_on(h:Heap)(s:ByteArray)(i:Nat)(k:Int)(n:Nat)(_h1:i < s.data.toList.length)(_h2:s.data.toList.length < 4611686018427387904)(a0:decide (((i:Int):Int) < s.data.toList.length)=true)(a1:Pu n 196 [.int .u8 (bAt s (i:Int):Int)] (iv k) h)(a2:Pu n 218 [iv k] (.bool true) h):Bd n 21 [1,1,0,0,0] Tryz.f217 (x0_1 s i) h .normal [(0,.string s),(1,.func (.func 218) #[] #[]),(5,iv ((i:Int)+1))] h:=
 bdF (kZ h) [yT a0,yI 9 s (i:Int),yP a1,yP a2,yW ((i:Int)+1),.z 0]
theorem run218_off(h:Heap)(s:ByteArray)(i:Nat)(k:Int)(n:Nat)(_h1:i < s.data.toList.length)(_h2:s.data.toList.length < 4611686018427387904)(a0:decide (((i:Int):Int) < s.data.toList.length)=true)(a1:Pu n 196 [.int .u8 (bAt s (i:Int):Int)] (iv k) h)(a2:Pu n 218 [iv k] (.bool false) h):Bd n 21 [1,1,0,0,0] Tryz.f217 (x0_1 s i) h (.exit 0) [(5,iv (i:Int))] h:=
 bdF (kZ h) [yT a0,yI 9 s (i:Int),yP a1,yP a2,.z 0]
theorem run218_end(h:Heap)(s:ByteArray)(i:Nat)(n:Nat)(a0:decide (((i:Int):Int) < s.data.toList.length)=false):Bd n 21 [1,1,0,0,0] Tryz.f217 (x0_1 s i) h (.exit 0) [(5,iv (i:Int))] h:=
 bdF (kZ h) [yF a0,.z 0]
theorem run218_p(h:Heap)(s:ByteArray)(m:Int)(n:Nat)(a0:Lf n 21 [1,1,0,0,0] Tryz.f217 [(0,.string s),(1,.func (.func 218) #[] #[]),(4,iv 0),(5,iv 0)] h.fresh (.exit 0) [(5,iv m)] h.fresh):Fn n 217 [.string s,.func (.func 218) #[] #[]] h (iv m) h.fresh:=
 fnV (kZ h) [yS a0 (kZ h.fresh),.z 0]
theorem run220_on(h:Heap)(s:ByteArray)(i:Nat)(k:Int)(n:Nat)(_h1:i < s.data.toList.length)(_h2:s.data.toList.length < 4611686018427387904)(a0:decide (((i:Int):Int) < s.data.toList.length)=true)(a1:Pu n 196 [.int .u8 (bAt s (i:Int):Int)] (iv k) h)(a2:Pu n 220 [iv k] (.bool true) h):Bd n 21 [1,1,0,0,0] Tryz.f217 (x0_2 s i) h .normal [(0,.string s),(1,.func (.func 220) #[] #[]),(5,iv ((i:Int)+1))] h:=
 bdF (kZ h) [yT a0,yI 9 s (i:Int),yP a1,yP a2,yW ((i:Int)+1),.z 0]
theorem run220_off(h:Heap)(s:ByteArray)(i:Nat)(k:Int)(n:Nat)(_h1:i < s.data.toList.length)(_h2:s.data.toList.length < 4611686018427387904)(a0:decide (((i:Int):Int) < s.data.toList.length)=true)(a1:Pu n 196 [.int .u8 (bAt s (i:Int):Int)] (iv k) h)(a2:Pu n 220 [iv k] (.bool false) h):Bd n 21 [1,1,0,0,0] Tryz.f217 (x0_2 s i) h (.exit 0) [(5,iv (i:Int))] h:=
 bdF (kZ h) [yT a0,yI 9 s (i:Int),yP a1,yP a2,.z 0]
theorem run220_end(h:Heap)(s:ByteArray)(i:Nat)(n:Nat)(a0:decide (((i:Int):Int) < s.data.toList.length)=false):Bd n 21 [1,1,0,0,0] Tryz.f217 (x0_2 s i) h (.exit 0) [(5,iv (i:Int))] h:=
 bdF (kZ h) [yF a0,.z 0]
theorem run220_p(h:Heap)(s:ByteArray)(m:Int)(n:Nat)(a0:Lf n 21 [1,1,0,0,0] Tryz.f217 [(0,.string s),(1,.func (.func 220) #[] #[]),(4,iv 0),(5,iv 0)] h.fresh (.exit 0) [(5,iv m)] h.fresh):Fn n 217 [.string s,.func (.func 220) #[] #[]] h (iv m) h.fresh:=
 fnV (kZ h) [yS a0 (kZ h.fresh),.z 0]
end
end Go.PanE
