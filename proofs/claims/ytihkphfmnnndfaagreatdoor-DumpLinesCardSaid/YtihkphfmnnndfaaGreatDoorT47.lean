/-
 Part 47 of the proof of Rows.DumpLinesCardSaid. No conditions.
-/
import Derived.Test.YtihkphfmnnndfaaGreatDoorT45
import Derived.Test.YtihkphfmnnndfaaGreatDoorT46
import Derived.Deep.Slices
namespace Go.PanE
open Go.Proofs Go.Proofs.YtihkphfmnnndfaaGreatDoor
def plc(W:World)(b1 o1 b4 o4 b5 o5:Nat):List Place:=[⟨0,0,1,0,0,W.heap[0]?⟩,⟨1,0,1,0,0,W.heap[1]?⟩,⟨2,0,1,0,0,W.heap[2]?⟩,⟨3,0,20,0,0,W.heap[3]?⟩,⟨4,0,1,0,0,W.heap[4]?⟩,⟨5,0,1,0,0,W.heap[5]?⟩,
 ⟨6,0,0,0,0,none⟩,⟨7,0,0,0,0,none⟩,⟨8,0,0,0,0,none⟩,⟨9,0,0,0,0,none⟩,⟨10,0,0,0,0,none⟩,⟨b1,o1,0,0,0,none⟩,⟨b4,o4,0,0,0,none⟩,⟨b5,o5,0,0,0,none⟩]
def mu1(W:World)(b1 o1 b4 o4 b5 o5:Nat)(px py:Option Place):Loc:=fun b=>if b=14 then px else if b=15 then py else(plc W b1 o1 b4 o4 b5 o5)[b]?
theorem zlC(μ:Loc)(l:List Int):zh μ (l.map (Value.int .u64)) (l.map (Value.int .u64)):=by
 induction l with
 |nil=>exact .nil
 |cons x l ih=>exact .cons (.int _ _) ih
theorem zqD:zeI=((List.range 20).map fun i=>((10 ^ i:Nat):Int)).map (Value.int .u64):=by
 unfold zeI
 rw[List.map_map]
 rfl
theorem zcc{μ:Loc}{x y:Value}(h:VRel μ x y):zh μ [x] [y]:=.cons h .nil
structure ArgR(W:World)(b sz:Nat)(cells:Vs)(len:Nat)(v:Value)(o:Option AObj)(p:Option Place)(r:OA):Prop where
 at_:(r=none∧cells=[]∧len=0∧v= .slice none 0 0∧o=none∧p=none)∨
  ∃ (q:Place) (cap t:Nat),t≠5∧o=some (.row t cells sz true)∧p=some q∧(∀ μ:Loc,jK μ W q (.row t cells sz true))∧r=some ⟨b,0,none⟩∧v= .slice (some ⟨q.pb,q.po,none⟩) len cap∧q.capOk 0 len cap∧q.ob=W.heap[q.pb]?
def hB(h:Heap):Option AObj→Heap
 |some o=>h.alloc o
 |none=>zd 1 h
theorem zjT(h:Heap)(x:Option AObj):(hB h x).nx=h.nx+1:=by
 cases x with
 |none=>exact zK _ _
 |some o=>exact zt _ _
theorem zlQ(h:Heap)(x:Option AObj)(b:Nat):(hB h x).get b=if b < h.nx then h.get b else if b=h.nx then x else none:=by
 cases x with
 |none=>
  show(zd 1 h).get b=_
  rw[(wY 1 h).2.2]
  split
  ·rfl
  ·split <;>rfl
 |some o=>
  show(h.alloc o).get b=_
  rw[wB]
  by_cases h1:b=h.nx
  ·rw[if_pos h1,if_neg (by omega),if_pos h1]
  ·rw[if_neg h1]
   by_cases h2:b < h.nx
   ·rw[if_pos h2]
   ·rw[if_neg h2,if_neg h1,wo,if_neg h2]
def hA(m:Int)(x y:Option AObj):Heap:=hB (hB (h0 m) x) y
theorem zd4(m:Int)(x y:Option AObj)(b:Nat):(hA m x y).get b=if b < 14 then(h0 m).get b else if b=14 then x else if b=15 then y else none:=by
 unfold hA
 have n0:(h0 m).nx=14:=rfl
 rw[zlQ,zjT,zlQ,n0]
 by_cases h1:b < 14
 ·rw[if_pos (by omega),if_pos h1,if_pos h1]
 ·rw[if_neg h1,if_neg h1]
  by_cases h2:b=14
  ·rw[if_pos (by omega),if_pos h2,if_pos h2]
  ·rw[if_neg h2,if_neg h2,if_neg (by omega)]
theorem zfY(m:Int)(x y:Option AObj):(hA m x y).nx=16:=by
 unfold hA
 rw[zjT,zjT]
 rfl
section
variable {W:World} {m:Int} {b1 o1 b4 o4 b5 o5:Nat} {cx cy:Vs} {nx ny:Nat} {vx vy:Value} {x y:Option AObj} {px py:Option Place} {rx ry:OA}
theorem zcI(S:Start W m b1 o1 b4 o4 b5 o5)(X:ArgR W 14 8 cx nx vx x px rx)(Y:ArgR W 15 5 cy ny vy y py ry){b:Nat}{o:AObj}(h:(hA m x y).get b=some o):
  ∃ (p:Place) (t:TypeId) (cells:Vs) (es:Nat),mu1 W b1 o1 b4 o4 b5 o5 px py b=some p∧o= .row t cells es true∧jK (mu1 W b1 o1 b4 o4 b5 o5 px py) W p o∧p.ob=W.heap[p.pb]?∧
   t≠5∧(b < 6→p.pb=b):=by
 rw[zd4] at h
 split at h
 ·rw[vJ] at h
  split at h
  next hlt=>
   cases h
   match b,hlt with
   |0,_=>exact⟨⟨0,0,1,0,0,W.heap[0]?⟩,_,_,_,rfl,rfl,⟨_,(0,0),S.v0,rfl,rfl,rfl,⟨fun _=>rfl,fun h=>by cases h⟩,zcc (.iface _ _ _ (.agg _ _ rfl fun i x x' h h'=>by
     match i with
     |0=>cases h;cases h';exact .ptr 10 84 ⟨10,0,0,0,0,none⟩ rfl
     |i+1=>simp at h)),⟨fun h=>by(cases h),fun _ _=>rfl⟩⟩,rfl,by decide,fun _=>rfl⟩
   |1,_=>exact⟨⟨1,0,1,0,0,W.heap[1]?⟩,_,_,_,rfl,rfl,⟨_,(0,0),S.v1,rfl,rfl,rfl,⟨fun _=>rfl,fun h=>by cases h⟩,zcc (.iface _ _ _ (.ptr 11 0 ⟨b1,o1,0,0,0,none⟩ rfl)),⟨fun h=>by(cases h),fun _ _=>rfl⟩⟩,rfl,by decide,fun _=>rfl⟩
   |2,_=>exact⟨⟨2,0,1,0,0,W.heap[2]?⟩,_,_,_,rfl,rfl,⟨_,(0,0),S.v2,rfl,rfl,rfl,⟨fun _=>rfl,fun h=>by cases h⟩,zcc (.int _ _),⟨fun h=>by(cases h),fun _ _=>rfl⟩⟩,rfl,by decide,fun _=>rfl⟩
   |3,_=>
    refine⟨⟨3,0,20,0,0,W.heap[3]?⟩,_,_,_,rfl,rfl,⟨_,(0,0),S.v3,rfl,rfl,rfl,⟨fun _=>rfl,fun h=>by cases h⟩,?_,⟨fun h=>by(cases h),fun _ _=>rfl⟩⟩,rfl,by decide,fun _=>rfl⟩
    show zh _ zeI (List.take 20 (List.drop 0 zeI))
    rw[List.drop_zero,List.take_of_length_le (by show 20≤20;exact nL_ _),zqD]
    exact zlC _ _
   |4,_=>exact⟨⟨4,0,1,0,0,W.heap[4]?⟩,_,_,_,rfl,rfl,⟨_,(0,0),S.v4,rfl,rfl,rfl,⟨fun _=>rfl,fun h=>by cases h⟩,zcc (.iface _ _ _ (.ptr 12 0 ⟨b4,o4,0,0,0,none⟩ rfl)),⟨fun h=>by(cases h),fun _ _=>rfl⟩⟩,rfl,by decide,fun _=>rfl⟩
   |5,_=>exact⟨⟨5,0,1,0,0,W.heap[5]?⟩,_,_,_,rfl,rfl,⟨_,(0,0),S.v5,rfl,rfl,rfl,⟨fun _=>rfl,fun h=>by cases h⟩,zcc (.iface _ _ _ (.ptr 13 0 ⟨b5,o5,0,0,0,none⟩ rfl)),⟨fun h=>by(cases h),fun _ _=>rfl⟩⟩,rfl,by decide,fun _=>rfl⟩
  next=>cases h
 split at h
 next e=>
  subst e
  rcases X.at_ with⟨_,_,_,_,e,_⟩|⟨q,cap,t,h5,e,e2,hr,_,_,_,hob⟩
  ·rw[e] at h;cases h
  ·rw[e] at h;cases h
   exact⟨q,_,_,_,e2,rfl,hr _,hob,h5,fun h=>by omega⟩
 split at h
 next e=>
  subst e
  rcases Y.at_ with⟨_,_,_,_,e,_⟩|⟨q,cap,t,h5,e,e2,hr,_,_,_,hob⟩
  ·rw[e] at h;cases h
  ·rw[e] at h;cases h
   exact⟨q,_,_,_,e2,rfl,hr _,hob,h5,fun h=>by omega⟩
 ·cases h
theorem zkW{μ:Loc}{p:Place}{t es:Nat}{cells:Vs}{ro:Bool}(h:jK μ W p (.row t cells es ro)):p.pb < W.heap.size:=by
 obtain⟨arr,fr,h1,_⟩:=h
 exact(Array.getElem?_eq_some_iff.1 h1).1
theorem zfd(S:Start W m b1 o1 b4 o4 b5 o5)(X:ArgR W 14 8 cx nx vx x px rx)(Y:ArgR W 15 5 cy ny vy y py ry):Rep (mu1 W b1 o1 b4 o4 b5 o5 px py) (hA m x y) W:=by
 refine⟨?_,?_,?_,?_,?_⟩
 ·intro b o hb
  obtain⟨p,_,_,_,h1,_,h2,_⟩:=zcI S X Y hb
  exact⟨p,h1,h2⟩
 ·intro b b' o o' p p' hb hb' hp hp' hpb hw
  obtain⟨q,t,cs,es,h1,rfl,_⟩:=zcI S X Y hb
  obtain⟨q',t',cs',es',h1',rfl,_⟩:=zcI S X Y hb'
  cases hw
 ·intro b hb
  rw[zfY] at hb
  unfold mu1
  rw[if_neg (by omega),if_neg (by omega)]
  exact List.getElem?_eq_none (by show 14≤b;omega)
 ·intro b p hp
  unfold mu1 at hp
  split at hp
  ·rcases X.at_ with⟨_,_,_,_,_,e⟩|⟨q,cap,_,_,_,e2,hr,_⟩
   ·rw[e] at hp;cases hp
   ·rw[e2] at hp;cases hp
    exact zkW (hr fun _=>none)
  split at hp
  ·rcases Y.at_ with⟨_,_,_,_,_,e⟩|⟨q,cap,_,_,_,e2,hr,_⟩
   ·rw[e] at hp;cases hp
   ·rw[e2] at hp;cases hp
    exact zkW (hr fun _=>none)
  have hm:=List.mem_of_getElem? hp
  have h1:=S.sz
  have h2:=S.l1
  have h3:=S.l4
  have h4:=S.l5
  simp only[plc,List.mem_cons,List.not_mem_nil,or_false] at hm
  rcases hm with rfl|rfl|rfl|rfl|rfl|rfl|rfl|rfl|rfl|rfl|rfl|rfl|rfl|rfl <;>simp only <;>omega
 ·intro g hg
  have hg:g < 11:=hg
  match g,hg with
  |0,_|1,_|2,_|3,_|4,_|5,_|6,_|7,_|8,_|9,_|10,_=>exact⟨_,rfl,rfl,rfl⟩
theorem zkT{u:World}{ν:Loc}{h':Heap}(S:Start W m b1 o1 b4 o4 b5 o5)(X:ArgR W 14 8 cx nx vx x px rx)(Y:ArgR W 15 5 cy ny vy y py ry)(G:Go1 (mu1 W b1 o1 b4 o4 b5 o5 px py) (hA m x y) W ν h' u)(hk:∀ b,b < (hA m x y).nx→h'.get b=(hA m x y).get b):∀ i,i < W.heap.size→u.heap[i]? =W.heap[i]? :=by
 have R:=zfd S X Y
 have R':=(zbz R G hk).rep
 intro i hi
 by_cases ho:Own (mu1 W b1 o1 b4 o4 b5 o5 px py) (hA m x y) i
 ·obtain⟨b,o,p,hb,hp,rfl⟩:=ho
  obtain⟨q,t,cs,es,h1,rfl,h2,hob,h5,_⟩:=zcI S X Y hb
  rw[hp] at h1;cases h1
  obtain⟨p',hp',arr,fr,a1,a2,a3,a4,a5,a6,a7⟩:=R'.live b _ hb
  rw[hp] at hp';cases hp'
  exact(a7.2 rfl h5).trans hob
 ·exact G.frame i hi ho
theorem zix{b sz:Nat}{cells:Vs}{n:Nat}{v:Value}{o:Option AObj}{p:Option Place}{r:OA}(A:ArgR W b sz cells n v o p r){μ:Loc}(h:μ b=p):VRel μ (.slice r n n) v:=by
 rcases A.at_ with⟨rfl,_,rfl,rfl,_⟩|⟨q,cap,_,_,_,rfl,_,rfl,rfl,hc,_⟩
 ·exact .nils
 ·have:=VRel.slice b 0 n n cap q h hc
  exact this
theorem zxL(S:Start W m b1 o1 b4 o4 b5 o5)(L:List Edt)(V:List Ent)(X:ArgR W 14 8 (L.flatMap edL) L.length vx x px rx)(Y:ArgR W 15 5 (V.flatMap enL) V.length vy y py ry)(hL:L.length < 9223372036854775808)(hV:∀ e∈V,-9223372036854775808≤e.v∧e.v≤9223372036854775807)
  (hx:L=[]∨rx≠none) (hy:V=[]∨ry≠none):
  Calls Tryz.prog 3 #[vx,vy] W fun e u=>e= .returned (.bool true)∧u.os=W.os∧u.output=W.output∧∀ i,i < W.heap.size→u.heap[i]? =W.heap[i]? :=by
 have G0:Gl m (hA m x y):=⟨by rw[zfY];decide,fun b hb=>by rw[zd4,if_pos (by omega)]⟩
 have A:AR edL (hA m x y) (hA m x y).nx rx L:=by
  rcases X.at_ with⟨rfl,_⟩|⟨q,cap,t,_,rfl,_,_,rfl,_⟩
  ·exact .inl ⟨rfl,hx.resolve_right fun h=>h rfl⟩
  ·exact .inr ⟨14,t,8,true,rfl,by rw[zfY];decide,by rw[zd4];rfl⟩
 have B:AR enL (hA m x y) (hA m x y).nx ry V:=by
  rcases Y.at_ with⟨rfl,_⟩|⟨q,cap,t,_,rfl,_,_,rfl,_⟩
  ·exact .inl ⟨rfl,hy.resolve_right fun h=>h rfl⟩
  ·exact .inr ⟨15,t,5,true,rfl,by rw[zfY];decide,by rw[zd4];rfl⟩
 obtain⟨h',e,K⟩:=zl5 L V rx ry hL hV A B 1600 (by omega) G0
 refine((zuS 18446744073709551616 1600).1 3 _ _ _ _ e _ W [vx,vy] (zfd S X Y) (.cons (zix X rfl) (.cons (zix Y rfl) .nil))).mono ?_
 rintro ev u ⟨ν,v',rfl,G,rv⟩
 cases rv
 exact⟨rfl,G.os,G.out,zkT S X Y G K.get⟩
end
end Go.PanE
namespace Go.PanE
open Go.Proofs Go.Proofs.YtihkphfmnnndfaaGreatDoor
open Go.ChangeShapes Go.WideShapes
theorem zkY{P:Program}{fits:TypeId→Bool}{e:TypeId}{n:Nat}:∀ {d c off:Nat},rowAt P fits d e c off n=true→off≤c * P.cellsOf e
 |0,_,_,h=>by simp[rowAt] at h
 |d+1,c,off,h=>by
  unfold rowAt at h
  simp only at h
  split at h
  ·cases h
  next hs=>
   have hd:=Nat.div_add_mod off (P.cellsOf e)
   rw[Bool.or_eq_true] at h
   rcases h with h|h
   ·simp only[bA,beq_iff_eq,decide_eq_true_eq] at h
    rw[h.1.1,Nat.add_zero] at hd
    rw[← hd,Nat.mul_comm]
    exact Nat.mul_le_mul_right _ (by omega)
   ·rw[bA] at h
    have h:=of_decide_eq_true h.1
    exact Nat.le_of_lt ((Nat.div_lt_iff_lt_mul (by omega)).1 h)
theorem un5:Tryz.prog.underlying 5=some (.int .u8):=by kernel_rfl
theorem zzj{fits:TypeId→Bool}(hf:fits 5=false){d c off n:Nat}:rowAt Tryz.prog fits d 5 c off n=false:=by
 cases d with
 |zero=>rfl
 |succ d=>
  unfold rowAt
  simp only[un5,hf,Bool.and_false,Bool.or_false]
  split <;>rfl
theorem dep:Tryz.prog.depth=925+1:=by kernel_rfl
theorem zrn{W:World}{base:Nat}{a:Addr}{n:Nat}{u:TypeId}{fs:Array Field}(hu:Tryz.prog.underlying u=some (.struct fs))(h5:sameLayout Tryz.prog Tryz.prog.depth 5 u=false)(h:W.has Tryz.prog .any base a u n):
  a.spot=none∧∃ arr t fr,W.heap[a.block]? =some (.cells arr t fr)∧a.off≤arr.size∧t≠5:=by
 obtain⟨_,hs,row,cells,hsh,hl⟩:=h
 refine⟨hs,?_⟩
 unfold World.shape? at hsh
 split at hsh
 next c t fr e=>
  cases hsh
  refine⟨c,row,fr,e,?_,?_⟩
  ·rw[dep] at hl
   unfold liesAt at hl
   simp only[hu,Bool.or_false] at hl
   exact nT (zkY hl) (Nat.div_mul_le_self _ _)
  ·rintro rfl
   rw[dep] at hl
   unfold liesAt at hl
   simp only[hu,Bool.or_false] at hl
   exact Bool.noConfusion (hl.symm.trans (zzj (fits:=fun t=>sameLayout Tryz.prog Tryz.prog.depth t u) h5))
 next=>cases hsh
section
variable {H:Type} {enc:TypeId×Value→H} {W:World} {base:Nat} {spare:Nat→Bool} {held:Bool}
theorem vj{t:TypeId}{fs:List Field}{fuel:Nat}{cs:Vs}{x:DataW H×List MemPlace}(ht:Tryz.prog.underlying t=some (.struct ⟨fs⟩))(h:DataW.trod enc Tryz.prog W base spare held fuel t cs=some x){i:Nat}{f:Field}(hf:fs[i]? =some f){u o c:Nat}(hu:f.type=u∧f.offset=o)(hc:Tryz.prog.cellsOf u=c):
  ∃ n y,DataW.trod enc Tryz.prog W base spare held n u ((cs.drop o).take c)=some y:=by
 obtain⟨xs,n,_,_,_,hl,hx⟩:=DataW.trod_struct ht h
 have hx:=hx i f (by simpa using hf)
 have hi:i < xs.length:=by
  rw[hl]
  exact(List.getElem?_eq_some_iff.1 hf).1
 rw[List.getElem?_eq_getElem hi,hu.1,hu.2,hc] at hx
 exact⟨n,_,hx⟩
theorem ce3:Tryz.prog.cellsOf 3=1:=by kernel_rfl
theorem ce2:Tryz.prog.cellsOf 2=1:=by kernel_rfl
theorem un2:Tryz.prog.underlying 2=some (.int .i64):=by kernel_rfl
theorem zka:Tryz.prog.cellsOf 29=2:=by kernel_rfl
theorem zBT:Tryz.prog.cellsOf 27=3:=by kernel_rfl
theorem zBR:Tryz.prog.cellsOf 43=4:=by kernel_rfl
theorem zBQ:Tryz.prog.cellsOf 45=8:=by kernel_rfl
theorem zBS:Tryz.prog.cellsOf 31=5:=by kernel_rfl
theorem zyq:∃ f g:Field,Tryz.prog.underlying 29=some (.struct ⟨[f,g]⟩)∧(f.type=3∧f.offset=0)∧g.type=3∧g.offset=1:=by
 have h:(match Tryz.prog.underlying 29 with|some (.struct ⟨[f,g]⟩)=>(f.type==3 && f.offset==0) && (g.type==3 && g.offset==1)|_=>false)=true:=by kernel_rfl
 split at h
 next f g e=>simp only[bA,beq_iff_eq] at h;exact⟨f,g,e,h⟩
 next=>cases h
theorem zyp:∃ f g:Field,Tryz.prog.underlying 43=some (.struct ⟨[f,g]⟩)∧(f.type=29∧f.offset=0)∧g.type=29∧g.offset=2:=by
 have h:(match Tryz.prog.underlying 43 with|some (.struct ⟨[f,g]⟩)=>(f.type==29 && f.offset==0) && (g.type==29 && g.offset==2)|_=>false)=true:=by kernel_rfl
 split at h
 next f g e=>simp only[bA,beq_iff_eq] at h;exact⟨f,g,e,h⟩
 next=>cases h
theorem zsD:∃ f g:Field,Tryz.prog.underlying 31=some (.struct ⟨[f,g]⟩)∧(f.type=29∧f.offset=0)∧g.type=27∧g.offset=2:=by
 have h:(match Tryz.prog.underlying 31 with|some (.struct ⟨[f,g]⟩)=>(f.type==29 && f.offset==0) && (g.type==27 && g.offset==2)|_=>false)=true:=by kernel_rfl
 split at h
 next f g e=>simp only[bA,beq_iff_eq] at h;exact⟨f,g,e,h⟩
 next=>cases h
theorem zyr:∃ f g k:Field,Tryz.prog.underlying 27=some (.struct ⟨[f,g,k]⟩)∧(f.type=3∧f.offset=0)∧(g.type=2∧g.offset=1)∧k.type=9∧k.offset=2:=by
 have h:(match Tryz.prog.underlying 27 with|some (.struct ⟨[f,g,k]⟩)=>(f.type==3 && f.offset==0) && ((g.type==2 && g.offset==1) && (k.type==9 && k.offset==2))|_=>false)=true:=by kernel_rfl
 split at h
 next f g k e=>simp only[bA,beq_iff_eq] at h;exact⟨f,g,k,e,h⟩
 next=>cases h
theorem zsC:∃ f g k l:Field,Tryz.prog.underlying 45=some (.struct ⟨[f,g,k,l]⟩)∧(f.type=3∧f.offset=0)∧(g.type=29∧g.offset=1)∧(k.type=43∧k.offset=3)∧l.type=9∧l.offset=7:=by
 have h:(match Tryz.prog.underlying 45 with|some (.struct ⟨[f,g,k,l]⟩)=>(f.type==3 && f.offset==0) && ((g.type==29 && g.offset==1) && ((k.type==43 && k.offset==3) && (l.type==9 && l.offset==7)))|_=>false)=true:=by kernel_rfl
 split at h
 next f g k l e=>simp only[bA,beq_iff_eq] at h;exact⟨f,g,k,l,e,h⟩
 next=>cases h
abbrev Tr1(enc:TypeId×Value→H)(W:World)(base:Nat)(spare:Nat→Bool)(held:Bool)(t:TypeId)(cs:Vs):Prop:=∃ n y,DataW.trod enc Tryz.prog W base spare held n t cs=some y
theorem zf2{cs:Vs}(h:Tr1 enc W base spare held 29 cs)(hl:cs.length=2):∃ r c,cs=[iv r,iv c]:=by
 obtain⟨n,y,h⟩:=h
 obtain⟨f,g,hu,hf,hg⟩:=zyq
 match cs,hl with
 |[a,b],_=>
  obtain⟨_,_,h1⟩:=vj hu h (i:=0) rfl hf ce3
  obtain⟨_,_,h2⟩:=vj hu h (i:=1) rfl hg ce3
  obtain⟨r,e1,_⟩:=DataW.trod_int un3 h1
  obtain⟨c,e2,_⟩:=DataW.trod_int un3 h2
  cases e1;cases e2
  exact⟨r,c,rfl⟩
theorem zxv{cs:Vs}(h:Tr1 enc W base spare held 45 cs)(hl:cs.length=8):∃ e:Edt,cs=edL e∧True:=by
 obtain⟨n,y,h⟩:=h
 obtain⟨f,g,k,l,hu,hf,hg,hk,hll⟩:=zsC
 obtain⟨p,q,hu2,hp,hq⟩:=zyp
 match cs,hl with
 |[a,b,c,d,e,i,j,s],_=>
  obtain⟨_,_,h1⟩:=vj hu h (i:=0) rfl hf ce3
  have h2:=vj hu h (i:=1) rfl hg zka
  obtain⟨_,_,h3⟩:=vj hu h (i:=2) rfl hk zBR
  obtain⟨_,_,h4⟩:=vj hu h (i:=3) rfl hll ce9
  have h5:=vj hu2 h3 (i:=0) rfl hp zka
  have h6:=vj hu2 h3 (i:=1) rfl hq zka
  obtain⟨k,e1,_⟩:=DataW.trod_int un3 h1
  obtain⟨r,c',e2⟩:=zf2 h2 rfl
  obtain⟨a1,a2,e3⟩:=zf2 h5 rfl
  obtain⟨a3,a4,e4⟩:=zf2 h6 rfl
  obtain⟨⟨⟨t⟩⟩,e5,_⟩:=DataW.trod_string un9 h4
  cases e1;cases e2;cases e3;cases e4;cases e5
  exact⟨⟨k,r,c',a1,a2,a3,a4,t⟩,rfl,trivial⟩
theorem zxt{cs:Vs}(h:Tr1 enc W base spare held 31 cs)(hl:cs.length=5):∃ e:Ent,cs=enL e∧-9223372036854775808≤e.v∧e.v≤9223372036854775807:=by
 obtain⟨n,y,h⟩:=h
 obtain⟨f,g,hu,hf,hg⟩:=zsD
 obtain⟨p,q,o,hu2,hp,hq,ho⟩:=zyr
 match cs,hl with
 |[a,b,c,d,s],_=>
  have h1:=vj hu h (i:=0) rfl hf zka
  obtain⟨_,_,h2⟩:=vj hu h (i:=1) rfl hg zBT
  obtain⟨_,_,h3⟩:=vj hu2 h2 (i:=0) rfl hp ce3
  obtain⟨_,_,h4⟩:=vj hu2 h2 (i:=1) rfl hq ce2
  obtain⟨_,_,h5⟩:=vj hu2 h2 (i:=2) rfl ho ce9
  obtain⟨r,c',e2⟩:=zf2 h1 rfl
  obtain⟨k,e3,_⟩:=DataW.trod_int un3 h3
  obtain⟨v,e4,_,wf⟩:=DataW.trod_int un2 h4
  obtain⟨⟨⟨t⟩⟩,e5,_⟩:=DataW.trod_string un9 h5
  cases e2;cases e3;cases e4;cases e5
  refine⟨⟨r,c',k,v,t⟩,rfl,?_⟩
  have wf:(decide _ && decide _)=true:=wf
  rw[bA] at wf
  exact⟨of_decide_eq_true wf.1,of_decide_eq_true wf.2⟩
theorem zu0(a:Addr)(h:a.spot=none)(i:Nat):a.add i=⟨a.block,a.off+i,none⟩:=by
 obtain⟨b,o,s⟩:=a
 simp only at h
 subst h
 unfold Addr.add
 split
 next h=>subst h;rfl
 next=>rfl
set_option maxRecDepth 100000 in
theorem zmj{α:Type}[Inhabited α]{f:α→Vs}{Q:α→Prop}{t u:TypeId}{sz:Nat}{fs:Array Field}(ht:Tryz.prog.underlying t=some (.slice u))(hu:Tryz.prog.underlying u=some (.struct fs))(h5:sameLayout Tryz.prog Tryz.prog.depth 5 u=false)(hc:Tryz.prog.cellsOf u=sz)(hpos:0 < sz)
  (hf:∀ x,(f x).length=sz) (hof:∀ cs,Tr1 enc W 0 (fun _=>true) true u cs→cs.length=sz→∃ e,cs=f e∧Q e) (hrel:∀ e (μ:Loc),zh μ (f e) (f e)) {v:Value} {d:DataW H} {ps:List MemPlace}
  (hval:Value.okWide Tryz.prog W .any base t v) (htr:DataW.Trod enc Tryz.prog W 0 (fun _=>true) true t v d ps) (b:Nat):
  ∃ (L:List α) (o:Option AObj) (p:Option Place) (r:OA),ArgR W b sz (L.flatMap f) L.length v o p r∧(∀ e∈L,Q e)∧(L=[]∨r≠none)∧L.length≤maxLen:=by
 obtain⟨fuel,h⟩:=htr
 have hv:v= .slice none 0 0∨∃ a len cap,v= .slice (some a) len cap∧W.has Tryz.prog .any base a u cap:=by
  unfold Value.okWide at hval
  rw[ht] at hval
  simp only at hval
  unfold Cell.okWide at hval
  rw[ht] at hval
  unfold Cell.ok at hval
  rw[ht] at hval
  cases v with
  |slice x l c=>
   cases x with
   |none=>
    left
    match l,c with
    |0,0=>rfl
    |l+1,_=>exact hval.elim
    |0,c+1=>exact hval.elim
   |some a=>exact .inr ⟨a,l,c,rfl,hval.2.2⟩
  |_=>exact hval.elim
 rcases hv with rfl|⟨a,len,cap,rfl,hh⟩
 ·exact⟨[],none,none,none,⟨.inl ⟨rfl,rfl,rfl,rfl,rfl,rfl⟩⟩,by simp,.inl rfl,by simp⟩
 obtain⟨hsp,arr,t',fr,harr,hoff,ht5⟩:=zrn hu h5 hh
 rcases Go.Deep.open_slice ht h with⟨h0,_⟩|⟨a',len',cap',m,n,D,Pl,h0,_,hlen,hmax,hm,_,hx⟩
 ·cases h0
 have h0:Value.slice (some a) len cap=Value.slice (some a') len' cap':=by
  have:[Value.slice (some a) len cap]=[Value.slice (some a') len' cap']:=h0
  exact(List.cons.inj this).1
 cases h0
 have hm:m=cap:=hm
 subst hm
 have cell:∀ i,i < m→∃ cs,cs.length=sz∧Tr1 enc W 0 (fun _=>true) true u cs∧∀ j,j < sz→arr[a.off+i * sz+j]? =cs[j]? :=fun i hi=>by
  obtain⟨cs,h1,h2⟩:=hx i hi
  rw[hc] at h1
  obtain⟨_,hl,hj⟩:=World.cells?_some h1
  refine⟨cs,hl,⟨n,_,h2⟩,fun j hj'=>?_⟩
  have:=hj j hj'
  rw[Go.Deep.add_add,zu0 a hsp] at this
  unfold World.cell? at this
  simp only[harr] at this
  rw[← this,Nat.add_assoc];rfl
 obtain⟨E,hE⟩:=Go.Deep.choose_lt (n:=len) (p:=fun i e=>Q e∧∀ j,j < sz→arr[a.off+i * sz+j]? =(f e)[j]?) (fun i hi=>by
  obtain⟨cs,hl,h1,h2⟩:=cell i (by omega)
  obtain⟨e,rfl,q⟩:=hof cs h1 hl
  exact⟨e,q,h2⟩)
 have hsize:a.off+m * sz≤arr.size:=by
  by_cases h0:m=0
  ·rw[h0];omega
  ·obtain⟨cs,hl,_,h2⟩:=cell (m - 1) (by omega)
   have h3:=h2 (sz - 1) (by omega)
   rw[List.getElem?_eq_getElem (by omega)] at h3
   have h4:=(Array.getElem?_eq_some_iff.1 h3).1
   have:m * sz=(m - 1) * sz+sz:=by
    obtain⟨k,rfl⟩:=Nat.exists_eq_succ_of_ne_zero h0
    rw[Nat.succ_sub_one,Nat.succ_mul]
   omega
 have hls:len * sz≤m * sz:=Nat.mul_le_mul_right _ hlen
 have flen:∀ L:List α,(L.flatMap f).length=L.length * sz:=fun L=>by
  induction L with
  |nil=>simp
  |cons x L ih=>rw[List.flatMap_cons,lA,hf,ih,lC,Nat.succ_mul];omega
 have htake:∀ k,k≤len→(arr.toList.drop a.off).take (k * sz)=((List.range k).map E).flatMap f:=by
  intro k
  induction k with
  |zero=>intro _;simp
  |succ k ih=>
   intro hk
   rw[List.range_succ,List.map_append,List.flatMap_append,← ih (by omega),Nat.succ_mul,List.take_add]
   refine congrArg (List.take (k * sz) (List.drop a.off arr.toList)++·) ?_
   rw[List.map_cons,List.map_nil,List.flatMap_cons,List.flatMap_nil,List.append_nil]
   apply List.ext_getElem?
   intro j
   rw[List.getElem?_take,List.getElem?_drop,List.getElem?_drop]
   split
   next hj=>
    rw[Array.getElem?_toList,← (hE k (by omega)).2 j hj,Nat.add_assoc]
   next hj=>rw[List.getElem?_eq_none (by rw[hf];omega)]
 have lrel:∀ (μ:Loc) (L:List α),zh μ (L.flatMap f) (L.flatMap f):=fun μ L=>by
  induction L with
  |nil=>exact .nil
  |cons x L ih=>rw[List.flatMap_cons];exact(hrel x μ).append ih
 refine⟨(List.range len).map E,_,some ⟨a.block,a.off,len * sz,arr.size - a.off - len * sz,sz,W.heap[a.block]?⟩,some ⟨b,0,none⟩,⟨.inr ⟨_,m,t',ht5,rfl,rfl,fun μ=>?_,rfl,?_,.inr ⟨by show sz≠0;omega,?_,by simpa using hlen,?_⟩,rfl⟩⟩,?_,.inr (by simp),by simp;omega⟩
 ·refine⟨arr,fr,harr,?_,rfl,?_,⟨fun h=>by omega,fun h=>by(cases h)⟩,?_,⟨fun h=>by(cases h),fun _ _=>rfl⟩⟩
  ·rw[flen];simp
  ·simp only;omega
  ·simp only
   rw[htake len (nL_ _)]
   exact lrel μ _
 ·simp only[List.length_map,List.length_range]
  have:=hsp
  obtain⟨bb,oo,ss⟩:=a
  simp only at this
  subst this;rfl
 ·simp
 ·simp only;omega
 ·intro e he
  obtain⟨i,hi,rfl⟩:=List.mem_map.1 he
  exact(hE i (List.mem_range.1 hi)).1
end
end Go.PanE
