/-
 Part 1 of the proof of Rows.DumpLinesCardSaid. No conditions.
-/
import Derived.LoopIn
import Derived.LoopNIn
import Derived.Maps.AppendAt
import Derived.Maps.RangeRun
import Derived.OwnWalkIn
import Derived.RangeFuncBox
import Derived.RangeFuncGives
import Derived.RegionIn
import Derived.Shelf.AbstractIn
import Derived.Sort.MapsRangeIn
import Derived.TacticsInMore
import Derived.Test.YtihkphfmnnndfaaGreatDoorProg
import Derived.WalkKit
namespace Go.Proofs.Cel
open Go Go.RowKit Go.Maps Go.ChangeMaps
section
variable {P:Program} {F:Fence} {n:Nat} {ops:Array Oper} {rest:List Oper} {o:Oper} {a:Act} {Q:Exit→Act→World→Prop}
theorem grownBy_setBlock(w w1:World)(hw:w1=w∨w1=w.drew)(r:Nat)(ob:Obj):w.grownBy (setBlock w1 r ob) (some r):=by
 have key:∀ (k:Nat),some k≠some r→(w.heap.setIfInBounds r ob)[k]? =w.heap[k]? :=by
  intro k hk
  simp only[Array.getElem?_setIfInBounds]
  rw[if_neg (fun e=>hk (by rw[e]))]
 have hs:w.heap.size≤(w.heap.setIfInBounds r ob).size:=by simp
 rcases hw with rfl|rfl
 ·exact⟨rfl,rfl,rfl,hs,fun k _ hk=>key k hk⟩
 ·exact⟨rfl,rfl,rfl,hs,fun k _ hk=>key k hk⟩
theorem wpListIn_next_left{w:World}(hg:o.guard=none)(it:Operand)(hop:o.op=Op.next it false)(r bm since c0:Nat)(seen:Array Nat)(es:Array MapEntry)(clock:Nat)
  (hit:a.eval it= .pointer (some ⟨r,0,none⟩)) (hr:w.heap[r]? =some (.mapIter (some bm) since seen c0)) (hb:w.heap[bm]? =some (.map es clock)) (hold:∀ x∈es.toList,x.born < since) (hsc:since≤c0) (hn:(es.toList.map (·.born)).Nodup) (hrb:bm≠r)
  (hDone:(leftOf es seen).size=0→wpListIn F n P ops Q rest (a.put o.dst (.tuple #[.bool false])) w)
  (hMore:∀ e∈(leftOf es seen).toList,∀ w':World,w.grownBy w' (some r)→w'.heap.size=w.heap.size→w'.heap[r]? =some (.mapIter (some bm) since (seen.push e.born) clock)→w'.heap[bm]? =some (.map es clock)→
   (Instr.entry (.pointer (some ⟨r,0,none⟩))).run P w'= .ok (.tuple #[e.key,e.val]) w'→wpListIn F n P ops Q rest (a.put o.dst (.tuple #[.bool true,e.key,e.val])) w'):
  wpListIn F n P ops Q (o::rest) a w:=by
 refine wpListIn_plain hg fun K' hK'=>?_
 unfold Oper.wpIn
 refine⟨by simp[Oper.about,hop],?_⟩
 rw[Oper.semAt_plain F _ _ (by rw[hop];intro c hc';cases hc')]
 have hlt:r < w.heap.size:=(Array.getElem?_eq_some_iff.1 hr).1
 rcases run_next_at (P:=P) w o.type r bm since c0 seen es clock hr hb hold hsc with⟨h0,hrun⟩|⟨e,he,w1,hw1,hrun⟩
 ·simp[execOp,hop,hit,hrun,Result.andThen]
  exact hK' _ _ (hDone h0)
 ·have hs:w1.heap=w.heap:=by rcases hw1 with rfl|rfl <;>rfl
  have hr':(setBlock w1 r (.mapIter (some bm) since (seen.push e.born) clock)).heap[r]? =some (.mapIter (some bm) since (seen.push e.born) clock):=by
   simp[setBlock,hs,hlt]
  have hb':(setBlock w1 r (.mapIter (some bm) since (seen.push e.born) clock)).heap[bm]? =some (.map es clock):=by
   simp only[setBlock,Array.getElem?_setIfInBounds,hs]
   rw[if_neg (fun e=>hrb e.symm)];exact hb
  have hen:=run_entry_at (P:=P) _ r bm since seen es clock e hr' hb' (by
   have he':=he
   simp only[leftOf,Array.toList_filter,List.mem_filter] at he'
   exact he'.1) hn
  simp[execOp,hop,hit,hrun,Result.andThen]
  exact hK' _ _ (hMore e he _ (grownBy_setBlock w w1 hw1 r _) (by simp[setBlock,hs]) hr' hb' hen)
end
end Go.Proofs.Cel
namespace Go.Proofs.Cel
open Go Go.RowKit Go.Maps Go.ChangeMaps
def IsKey(x:Value):Prop:=∃ p q:Int,x= .agg #[.int .i64 p,.int .i64 q]
def St2(x1 x2:MapEntry)(seen:Array Nat)(ss:List Value):Prop:=
 (seen= #[]∧ss=[])∨(∃ e,(e=x1∨e=x2)∧seen= #[e.born]∧ss=[e.key])∨(∃ e e',((e=x1∧e'=x2)∨(e=x2∧e'=x1))∧seen= #[e.born,e'.born]∧ss=[e.key,e'.key])
theorem st2_step{x1 x2:MapEntry}(hne:x1.born≠x2.born){seen:Array Nat}{ss:List Value}(h:St2 x1 x2 seen ss){e:MapEntry}(he:e∈(leftOf #[x1,x2] seen).toList):(e=x1∨e=x2)∧St2 x1 x2 (seen.push e.born) (ss++[e.key])∧ss.length < 2∧seen.size < 2:=by
 rcases h with⟨rfl,rfl⟩|⟨d,hd,rfl,rfl⟩|⟨d,d',hd,rfl,rfl⟩
 ·have:e=x1∨e=x2:=by simpa[leftOf] using he
  exact⟨this,.inr (.inl ⟨e,this,rfl,rfl⟩),by simp,by simp⟩
 ·simp only[leftOf,Array.toList_filter,List.mem_filter] at he
  obtain⟨h1,h2⟩:=he
  have h3:e=x1∨e=x2:=by simpa using h1
  have h4:e.born≠d.born:=by simpa using h2
  refine⟨h3,.inr (.inr ⟨d,e,?_,rfl,rfl⟩),by simp,by simp⟩
  rcases hd with rfl|rfl <;>rcases h3 with rfl|rfl
  ·exact absurd rfl h4
  ·exact .inl ⟨rfl,rfl⟩
  ·exact .inr ⟨rfl,rfl⟩
  ·exact absurd rfl h4
 ·exfalso
  simp only[leftOf,Array.toList_filter,List.mem_filter] at he
  obtain⟨h1,h2⟩:=he
  have h3:e=x1∨e=x2:=by simpa using h1
  have h4:¬ e.born=d.born∧¬ e.born=d'.born:=by simpa using h2
  rcases hd with⟨rfl,rfl⟩|⟨rfl,rfl⟩ <;>rcases h3 with rfl|rfl
  ·exact h4.1 rfl
  ·exact h4.2 rfl
  ·exact h4.2 rfl
  ·exact h4.1 rfl
theorem st2_done{x1 x2:MapEntry}(hne:x1.born≠x2.born){seen:Array Nat}{ss:List Value}(h:St2 x1 x2 seen ss)(he:(leftOf #[x1,x2] seen).size=0):ss.length=2∧∀ y∈ss,y=x1.key∨y=x2.key:=by
 rcases h with⟨rfl,rfl⟩|⟨d,hd,rfl,rfl⟩|⟨d,d',hd,rfl,rfl⟩
 ·simp[leftOf] at he
 ·exfalso
  rcases hd with rfl|rfl
  ·simp[leftOf] at he;exact hne he.symm
  ·simp[leftOf] at he;exact hne he
 ·refine⟨rfl,fun y hy=>?_⟩
  rcases hd with⟨rfl,rfl⟩|⟨rfl,rfl⟩
  ·simpa using hy
  ·have:y=d.key∨y=d'.key:=by simpa using hy
   exact this.symm
set_option maxRecDepth 100000 in
set_option maxHeartbeats 1000000 in
theorem keys1(l Bm b clock:Nat)(x1 x2:MapEntry)(hne:x1.born≠x2.born)(hb1:x1.born < clock)(hb2:x2.born < clock)(hk1:IsKey x1.key)(hk2:IsKey x2.key)(J:List Value→World→Prop)
  (hY:∀ pre x W,J pre W→pre.length < 2→IsKey x→YieldAt Fence.wide 0 Tryz.prog l #[x] W fun e W'=>e= .returned (.bool true)∧J (pre++[x]) W'∧KeepsWalks W W')
  (W:World) (hJ:AbidesFrom W.heap.size J) (hm:W.cell? ⟨Bm,0,none⟩=some (.map (some b))) (hb:W.heap[b]? =some (.map #[x1,x2] clock)) (h0:J [] W):
  CallsIn Fence.wide 1 Tryz.prog 61 #[.func (.yield l) #[] #[],.pointer (some ⟨Bm,0,none⟩)] W fun e W'=>(∃ v,e= .returned v)∧∃ ss:List Value,ss.length=2∧(∀ y∈ss,y=x1.key∨y=x2.key)∧J ss W':=by
 have hF:Fence.wide.fn 61:=trivial
 have hrun:=run_range_map (P:=Tryz.prog) W 96 29 97 b _ clock Tryz.underlying96 hb
 have hblt:b < W.heap.size:=(Array.getElem?_eq_some_iff.1 hb).1
 refine callsIn_of_wp Tryz.func61 rfl hF ?_ rfl
 simp only[Tryz.ntmps61,List.size_toArray,List.length_cons,List.length_nil,Nat.reduceAdd,Nat.reduceSub,Array.replicate_succ,Array.replicate_zero,List.push_toArray,List.append_toArray,List.nil_append,List.cons_append]
 gi_wp2
 have hg0:W.grownBy (W.alloc (.mapIter (some b) clock #[] clock)) none:=World.grownBy_alloc W _ none
 have hr0:(W.alloc (.mapIter (some b) clock #[] clock)).heap[W.heap.size]? =some (.mapIter (some b) clock #[] clock):=World.alloc_heap_new W _
 have hb0:(W.alloc (.mapIter (some b) clock #[] clock)).heap[b]? =some (.map #[x1,x2] clock):=(Below.heap_alloc _ _ b hblt).trans hb
 have hJ0:J [] (W.alloc (.mapIter (some b) clock #[] clock)):=hJ [] W _ none h0 hg0 (fun r e=>by cases e)
 generalize W.alloc (.mapIter (some b) clock #[] clock)=W0 at hr0 hb0 hJ0
 clear hg0
 gi_loopw [3] (fun _ wr=>∃ (seen:Array Nat) (ss:List Value),wr.heap[W.heap.size]? =some (.mapIter (some b) clock seen clock)∧wr.heap[b]? =some (.map #[x1,x2] clock)∧St2 x1 x2 seen ss∧J ss wr)
  (fun _ wr=>match wr.heap[W.heap.size]? with|some (.mapIter _ _ seen _)=>2 - seen.size|_=>0)
 case atStart=>
  exact⟨#[],[],hr0,hb0,.inl ⟨rfl,rfl⟩,hJ0⟩
 case round=>
  obtain⟨seen,ss,hr,hbb,hst,hJs⟩:=hrel
  gi_wp2_with (first
   |(gi_at_next;refine wpListIn_next_left rfl _ rfl W.heap.size b clock clock seen _ clock rfl hr hbb (fun x hx=>?hold) (Nat.le_refl _) ?nd (by omega) ?done ?more)
   |gi_in)
  case hold=>
   simp at hx
   rcases hx with rfl|rfl
   ·exact hb1
   ·exact hb2
  case done=>
   intro hz
   obtain⟨hl2,hks⟩:=st2_done hne hst (by rw[hz];rfl)
   gi_wp2
   go_end0
   exact⟨⟨_,rfl⟩,ss,hl2,hks,hJs⟩
  case more=>
   intro e he w2 hg2 hs2 hr2 hb2' hen
   obtain⟨hor,hst2,hlt2,hsz2⟩:=st2_step hne hst (Array.mem_toList_iff.2 he)
   have hkey:IsKey e.key:=by rcases hor with rfl|rfl <;>assumption
   have hJ2:J ss w2:=hJ ss wr w2 (some W.heap.size) hJs hg2 (fun r e=>by cases e;exact⟨Nat.le_refl _,_,hr,rfl⟩)
   obtain⟨p,q,hpq⟩:=hkey
   rw[hpq] at hen hst2
   clear hs2
   have hJ3:J ss (w2.alloc (.cells #[.int .i64 p,.int .i64 q] 29)):=hJ ss w2 _ none hJ2 (World.grownBy_alloc w2 _ none) (fun r e=>by cases e)
   obtain⟨fn,tmps,assign,body,hy,hR⟩:=hY ss (.agg #[.int .i64 p,.int .i64 q]) _ hJ3 hlt2 ⟨p,q,rfl⟩
   have hrlt:W.heap.size < w2.heap.size:=(Array.getElem?_eq_some_iff.1 hr2).1
   have hblt2:b < w2.heap.size:=(Array.getElem?_eq_some_iff.1 hb2').1
   have hr3:(w2.alloc (.cells #[.int .i64 p,.int .i64 q] 29)).heap[W.heap.size]? =some (.mapIter (some b) clock (seen.push e.born) clock):=(Below.heap_alloc _ _ _ hrlt).trans hr2
   have hb3:(w2.alloc (.cells #[.int .i64 p,.int .i64 q] 29)).heap[b]? =some (.map #[x1,x2] clock):=(Below.heap_alloc _ _ _ hblt2).trans hb2'
   gi_wp2
   refine hR.mono ?_
   rintro e3 W3 ⟨rfl,hJ4,hk3⟩
   gi_wp2
   have hr4:=hk3.same _ _ hr3 rfl
   have hb4:=hk3.same _ _ hb3 rfl
   go_roundw
   case rel=>exact⟨_,_,hr4,hb4,hst2,hJ4⟩
   case measure=>rw[hr4,hr];simp only[Array.size_push];omega
end Go.Proofs.Cel
namespace Go.Proofs.Cel
open Go Go.RowKit Go.Maps Go.ChangeMaps
def apAssign:Code:=(Code.region 2 #[{dst:=some 5,op:=Op.alloc 29,type:=0,pos:= "iter.go:51",after:= #[],guard:=none},{dst:=none,op:=Op.store 29 (Operand.tmp 5) (Operand.tmp 7),type:=0,pos:= "iter.go:51",after:= #[{on:=0,ground:=Ground.data},{on:=0,ground:=Ground.phase}],guard:=none}] false)
def apBody:Code:=(Code.block 1 (Code.region 3 #[{dst:=some 8,op:=Op.load 56 (Operand.tmp 2),type:=56,pos:= "iter.go:52",after:= #[],guard:=none},{dst:=some 9,op:=Op.load 29 (Operand.tmp 5),type:=29,pos:= "iter.go:52",after:= #[],guard:=none},{dst:=some 10,op:=Op.buildSlice 56 1 #[(0,Operand.tmp 9)],type:=56,pos:= "iter.go:52",after:= #[{on:=1,ground:=Ground.data}],guard:=none},{dst:=some 11,op:=Op.call {callee:=Callee.builtin Builtin.append,args:= #[Operand.tmp 8,Operand.tmp 10],argTypes:= #[56,56]},type:=56,pos:= "iter.go:52",after:= #[{on:=0,ground:=Ground.data},{on:=2,ground:=Ground.data}],guard:=none},{dst:=none,op:=Op.store 56 (Operand.tmp 2) (Operand.tmp 11),type:=0,pos:= "iter.go:52",after:= #[{on:=3,ground:=Ground.data},{on:=3,ground:=Ground.chain},{on:=0,ground:=Ground.phase},{on:=1,ground:=Ground.phase},{on:=2,ground:=Ground.phase},{on:=3,ground:=Ground.phase}],guard:=none}] false))
def apRec(fn:FuncId)(sv:Value)(Bs D:Nat)(st:LoopState)(pend:Option Code):Loop:=
 {state:=st,pending:=pend,fn,tmps:= #[.slice none 0 0,sv,.pointer (some ⟨Bs,0,none⟩),undef,.slice none 0 0,undef,sv,undef,undef,undef,undef,undef,undef],params:= #[7],assign:=apAssign,body:=apBody,defers:=D}
def keyCells(ss:List Value):List Value:=ss.flatMap fun x=>x.cells.toList
structure ApAt(w0:World)(fn:FuncId)(sv:Value)(Bs l D:Nat)(ss:List Value)(W:World):Prop where
 box:∃ v,W.heap[Bs]? =some (.cells #[v] 56 (0,0))∧W.ownsRow w0.heap.size 29 2 v ss.length (keyCells ss)
 L:W.heap[l]? =some (.loop (apRec fn sv Bs D .ready none))
 K:W.heap[D]? =some (.deferred (some []))
 below:Below w0.heap.size w0 W
theorem ownsRow_abides{W W':World}{row:Option Nat}{base:Nat}{e:TypeId}{size:Nat}{v:Value}{k:Nat}{xs:List Value}(h:W.ownsRow base e size v k xs)(hg:W.grownBy W' row)
  (hrow:∀ r,row=some r→∃ o:Obj,W.heap[r]? =some o∧o.isWalk=true):W'.ownsRow base e size v k xs:=by
 refine h.kept hg ?_
 rcases h.2 with⟨rfl,_⟩|⟨g,cap,cur,rfl,_,hgb,_⟩
 ·exact .inl rfl
 ·refine .inr fun e'=>?_
  obtain⟨o,ho,hw⟩:=hrow g (by simpa[Value.ownBlock] using e'.symm)
  rw[hgb] at ho;cases ho;cases hw
theorem ap_abides(w0:World)(fn:FuncId)(sv:Value)(Bs l D B:Nat)(hB:w0.heap.size≤B):AbidesFrom B (ApAt w0 fn sv Bs l D):=fun s W W' row h hg hrow=>by
 have hrow':∀ r,row=some r→∃ o:Obj,W.heap[r]? =some o∧o.isWalk=true:=fun r e=>(hrow r e).2
 obtain⟨v,hv,hr⟩:=h.box
 exact⟨⟨v,(grownBy_keeps hg hrow' hv rfl).trans hv,ownsRow_abides hr hg hrow'⟩,(grownBy_keeps hg hrow' h.L rfl).trans h.L,(grownBy_keeps hg hrow' h.K rfl).trans h.K,
  h.below.grown hg h.below.size (fun k e=>Nat.le_trans hB (hrow k e).1)⟩
theorem ownsRow_ne{W:World}{base:Nat}{e:TypeId}{size:Nat}{v:Value}{k:Nat}{xs:List Value}(h:W.ownsRow base e size v k xs){j:Nat}{o:Obj}(hj:W.heap[j]? =some o)(hno:∀ cur,o≠.cells cur e (0,0)):
  v.ownBlock=none∨v.ownBlock≠some j:=by
 rcases h.2 with⟨rfl,_⟩|⟨g,cap,cur,rfl,_,hgb,_⟩
 ·exact .inl rfl
 ·refine .inr fun e'=>?_
  have:g=j:=by simpa[Value.ownBlock] using e'
  subst this;rw[hgb] at hj;cases hj;exact hno cur rfl
theorem cell_of_box{W:World}{B:Nat}{v:Value}{t:TypeId}(h:W.heap[B]? =some (.cells #[v] t (0,0))):W.cell? ⟨B,0,none⟩=some v∧W.frozen? ⟨B,0,none⟩=false:=by
 constructor <;>simp[World.cell?,World.frozen?,h]
theorem heap_setCell_box{W:World}{B:Nat}{v:Value}{t:TypeId}(v':Value)(h:W.heap[B]? =some (.cells #[v] t (0,0))):(W.setCell ⟨B,0,none⟩ v').heap[B]? =some (.cells #[v'] t (0,0)):=by
 obtain⟨hlt,hk⟩:=Array.getElem?_eq_some_iff.1 h
 show(W.heap.modify B _)[B]? =_
 rw[Array.getElem?_eq_getElem (by rw[Array.size_modify];exact hlt),Array.getElem_modify_self,hk]
 rfl
theorem ownsRow_not_walk{W:World}{base:Nat}{e:TypeId}{size:Nat}{v:Value}{k:Nat}{xs:List Value}(h:W.ownsRow base e size v k xs):∀ (j:Nat) (o:Obj),v.ownBlock=some j→W.heap[j]? =some o→o.isWalk=false:=by
 intro j o hj ho
 rcases h.2 with⟨rfl,_⟩|⟨g,cap,cur,rfl,_,hgb,_⟩
 ·simp[Value.ownBlock] at hj
 ·have:g=j:=by simpa[Value.ownBlock] using hj
  subst this;rw[hgb] at ho;cases ho;rfl
theorem grownBy_putObj_c(W:World)(l:Nat)(o:Obj):W.grownBy (W.putObj l o) (some l):=
 ⟨rfl,rfl,rfl,by simp,fun k _ hk=>World.putObj_heap_other (fun e=>hk (by rw[e]))⟩
theorem grownBy_setCell0_c(W:World)(b:Nat)(v:Value):W.grownBy (W.setCell ⟨b,0,none⟩ v) (some b):=
 ⟨rfl,rfl,rfl,(KeepsWalks.setCell W _ v).size,fun k _ hk=>Below.heap_setCell _ _ _ k (fun e=>hk (by rw[e]))⟩
theorem two_new(W:World)(x y:Value)(t:TypeId):∀ (j:Nat) (u:Value),[x,y][j]? =some u→(W.alloc (.cells #[x,y] t)).cell? ((⟨W.heap.size,0,none⟩:Addr).add j)=some u:=by
 intro j u hj
 have hn:(W.alloc (.cells #[x,y] t)).heap[W.heap.size]? =some (.cells #[x,y] t (0,0)):=World.alloc_heap_new W _
 match j,hj with
 |0,hj=>
  simp only[List.getElem?_cons_zero,Option.some.injEq] at hj;subst hj
  show(W.alloc (.cells #[x,y] t)).cell? ⟨W.heap.size,0,none⟩=_
  simp only[World.cell?,hn];rfl
 |1,hj=>
  simp only[List.getElem?_cons_succ,List.getElem?_cons_zero,Option.some.injEq] at hj;subst hj
  show(W.alloc (.cells #[x,y] t)).cell? ⟨W.heap.size,1,none⟩=_
  simp only[World.cell?,hn];rfl
set_option maxRecDepth 100000 in
set_option maxHeartbeats 4000000 in
theorem apYield(w0:World)(fn:FuncId)(sv:Value)(Bs l D:Nat)(hBl:Bs≠l)(hDl:D≠l)(hDB:D≠Bs)(h0B:w0.heap.size≤Bs)(h0l:w0.heap.size≤l)
  (ss:List Value) (p q:Int) (W:World) (h:ApAt w0 fn sv Bs l D ss W) (hlen:ss.length < 2):
  YieldAt Fence.wide 0 Tryz.prog l #[.agg #[.int .i64 p,.int .i64 q]] W fun e W'=>e= .returned (.bool true)∧ApAt w0 fn sv Bs l D (ss++[.agg #[.int .i64 p,.int .i64 q]]) W'∧KeepsWalks W W':=by
 have hne:(56:TypeId)≠29:=by decide
 obtain⟨i0,hi,hz0,hz1,hz2⟩:∃ i0:TypeInfo,Tryz.prog.info? 29=some i0∧i0.zero=some (.agg #[.int .i64 0,.int .i64 0])∧i0.size=2∧i0.bytes=16:=⟨_,(show Tryz.prog.info? 29=some Tryz.t29 by kernel_rfl),(by kernel_rfl),(by kernel_rfl),(by kernel_rfl)⟩
 obtain⟨v,hv,hrow⟩:=h.box
 refine⟨fn,#[.slice none 0 0,sv,.pointer (some ⟨Bs,0,none⟩),undef,.slice none 0 0,undef,sv,.agg #[.int .i64 p,.int .i64 q],undef,undef,undef,undef,undef],apAssign,apBody,by simpa[apRec] using run_yield (P:=Tryz.prog) (args:= #[.agg #[.int .i64 p,.int .i64 q]]) h.L rfl,roundIn_of_wpIn trivial ?_⟩
 unfold apAssign
 gi_wp2_with (first|(rw[Oper.semAt_eq _ _ _ (fun c h=>by cases h)];go_simp;try go_bits)|gi_in)
 obtain⟨W1,hW1⟩:∃ W1,W.alloc (.cells #[.int .i64 p,.int .i64 q] 29)=W1:=⟨_,rfl⟩
 rw[hW1]
 have hg1:W.grownBy W1 none:=by rw[← hW1];exact World.grownBy_alloc _ _ _
 have hk1:KeepsWalks W W1:=by rw[← hW1];exact KeepsWalks.alloc _ _
 have hx1:W1.heap[W.heap.size]? =some (.cells #[.int .i64 p,.int .i64 q] 29 (0,0)):=by rw[← hW1];exact World.alloc_heap_new W _
 have hv1:W1.heap[Bs]? =some (.cells #[v] 56 (0,0)):=(hg1.block Bs (Array.getElem?_eq_some_iff.1 hv).1 (by simp)).trans hv
 have hK1:W1.heap[D]? =some (.deferred (some [])):=(hg1.block D (Array.getElem?_eq_some_iff.1 h.K).1 (by simp)).trans h.K
 have hL1:W1.heap[l]? =some (.loop (apRec fn sv Bs D .ready none)):=(hg1.block l (Array.getElem?_eq_some_iff.1 h.L).1 (by simp)).trans h.L
 have hrow1:W1.ownsRow w0.heap.size 29 2 v ss.length (keyCells ss):=by rw[← hW1];exact hrow.alloc _
 have hb1:Below w0.heap.size w0 W1:=h.below.grown hg1 h.below.size (fun k e=>by cases e)
 clear hW1
 have hbr:=run_beginRound (P:=Tryz.prog) hL1 rfl
 have hl:l < W1.heap.size:=(Array.getElem?_eq_some_iff.1 hL1).1
 have hWl:l < W.heap.size:=(Array.getElem?_eq_some_iff.1 h.L).1
 obtain⟨W2,hW2⟩:∃ W2,W1.putObj l (.loop {apRec fn sv Bs D .ready none with state:=.busy})=W2:=⟨_,rfl⟩
 rw[hW2] at hbr
 refine⟨W2,hbr,?_⟩
 have hg2:W1.grownBy W2 (some l):=by rw[← hW2];exact grownBy_putObj_c _ _ _
 have hk2:KeepsWalks W W2:=hk1.trans (by rw[← hW2];exact KeepsWalks.putObj _ hL1 rfl)
 have hv2:W2.heap[Bs]? =some (.cells #[v] 56 (0,0)):=by rw[← hW2];exact(World.putObj_heap_other hBl).trans hv1
 have hK2:W2.heap[D]? =some (.deferred (some [])):=by rw[← hW2];exact(World.putObj_heap_other hDl).trans hK1
 have hL2:W2.heap[l]? =some (.loop {apRec fn sv Bs D .ready none with state:=.busy}):=by rw[← hW2];exact World.putObj_heap_same hl
 have hx2:W2.heap[W.heap.size]? =some (.cells #[.int .i64 p,.int .i64 q] 29 (0,0)):=by rw[← hW2];exact(World.putObj_heap_other (by omega)).trans hx1
 have hrow2:W2.ownsRow w0.heap.size 29 2 v ss.length (keyCells ss):=hrow1.kept hg2 (ownsRow_ne hrow1 hL1 (fun cur e=>by cases e))
 have hb2:Below w0.heap.size w0 W2:=hb1.grown hg2 hb1.size (fun k e=>by cases e;exact h0l)
 obtain⟨hc2,hf2⟩:=cell_of_box hv2
 have hy0:W2.cell? ⟨W.heap.size,0,none⟩=some (.int .i64 p):=by simp[World.cell?,hx2]
 have hy1:W2.cell? ⟨W.heap.size,1,none⟩=some (.int .i64 q):=by simp[World.cell?,hx2]
 have hBlt:Bs < W2.heap.size:=(Array.getElem?_eq_some_iff.1 hv2).1
 have hl2:l < W2.heap.size:=(Array.getElem?_eq_some_iff.1 hL2).1
 have hDlt:D < W2.heap.size:=(Array.getElem?_eq_some_iff.1 hK2).1
 have ne_of:∀ {j:Nat} {o:Obj},W2.heap[j]? =some o→(∀ cur,o≠.cells cur 29 (0,0))→some j≠v.ownBlock:=fun hj hno=>by
  rcases ownsRow_ne hrow2 hj hno with e|e
  ·rw[e];simp
  ·exact fun e'=>e e'.symm
 clear hW2
 unfold apBody
 gi_wp2_with (first
  |(gi_at_builtin;refine wpListIn_append_own _ rfl _ _ 56 rfl w0.heap.size 29 i0 (.agg #[.int .i64 0,.int .i64 0]) 2 16 Tryz.underlying56 hi hz0 hz1 hz2 rfl (by decide) _ _ _ rfl (hrow2.alloc _) ⟨W2.heap.size,0,none⟩ 1 1 [.int .i64 p,.int .i64 q] rfl rfl (two_new _ _ _ _) (by simp[Value.oneCell']) (by unfold maxLen;omega) (by omega) (by have:=hb2.size;simp;omega) ?_;intro v' w3 hown' hg3 _
    have hv3:w3.heap[Bs]? =some (.cells #[v] 56 (0,0)):=(hg3.block Bs (by simp;omega) (ne_of hv2 (fun cur e=>by cases e))).trans ((Below.heap_alloc _ _ Bs hBlt).trans hv2)
    obtain⟨hc3,hf3⟩:=cell_of_box hv3
    obtain⟨g',cap',cur',rfl,hbase',hgb',hr1,hr2,hr3,hr4⟩:∃ g' cap' cur',v'= .slice (some ⟨g',0,none⟩) (ss.length+1) cap'∧w0.heap.size≤g'∧w3.heap[g']? =some (.cells cur' 29 (0,0))∧ss.length+1≤cap'∧cap'≤maxLen∧cur'.size=cap' * 2∧cur'.toList.take ((ss.length+1) * 2)=keyCells ss++[.int .i64 p,.int .i64 q]:=by
     rcases hown'.2 with⟨_,h0⟩|h'
     ·exact absurd h0 (by omega)
     ·exact h'
    go_frame)
  |(first|(rw[Oper.semAt_eq _ _ _ (fun c h=>by cases h)];go_simp;try go_bits)|gi_in))
 have hg3':(W2.alloc (.cells #[.int .i64 p,.int .i64 q] 29)).grownBy w3 v.ownBlock:=hg3
 have hL3:w3.heap[l]? =some (.loop {apRec fn sv Bs D .ready none with state:=.busy}):=(hg3'.block l (by simp;omega) (ne_of hL2 (fun cur e=>by cases e))).trans ((Below.heap_alloc _ _ l hl2).trans hL2)
 have hK3:w3.heap[D]? =some (.deferred (some [])):=(hg3'.block D (by simp;omega) (ne_of hK2 (fun cur e=>by cases e))).trans ((Below.heap_alloc _ _ D hDlt).trans hK2)
 obtain⟨w4,hw4⟩:∃ w4,w3.setCell ⟨Bs,0,none⟩ (.slice (some ⟨g',0,none⟩) (ss.length+1) cap')=w4:=⟨_,rfl⟩
 rw[hw4]
 have hg4:w3.grownBy w4 (some Bs):=by rw[← hw4];exact grownBy_setCell0_c _ _ _
 have hv4:w4.heap[Bs]? =some (.cells #[.slice (some ⟨g',0,none⟩) (ss.length+1) cap'] 56 (0,0)):=by rw[← hw4];exact heap_setCell_box _ hv3
 have hL4:w4.heap[l]? =some (.loop {apRec fn sv Bs D .ready none with state:=.busy}):=(hg4.block l (Array.getElem?_eq_some_iff.1 hL3).1 (fun e=>hBl (by cases e;rfl))).trans hL3
 have hK4:w4.heap[D]? =some (.deferred (some [])):=(hg4.block D (Array.getElem?_eq_some_iff.1 hK3).1 (fun e=>hDB (by cases e;rfl))).trans hK3
 have hrow4:=hown'.kept hg4 (ownsRow_ne hown' hv3 (fun cur e=>by cases e))
 have hl4:l < w4.heap.size:=(Array.getElem?_eq_some_iff.1 hL4).1
 have hb3:Below w0.heap.size w0 w3:=(hb2.alloc hb2.size _).grown hg3' (by have:=hb2.size;simp;omega) (fun k e=>(hrow2.lt k e).1)
 have hb4:Below w0.heap.size w0 w4:=hb3.grown hg4 hb3.size (fun k e=>by cases e;exact h0B)
 have hk4:KeepsWalks W w4:=((hk2.trans (KeepsWalks.alloc _ _)).trans (KeepsWalks.of_grownBy hg3' (ownsRow_not_walk (hrow2.alloc _)))).trans (by rw[← hw4];exact KeepsWalks.setCell _ _ _)
 clear hw4
 refine⟨_,_,run_endRound none hL4,rfl,⟨⟨_,(World.putObj_heap_other hBl).trans hv4,?_⟩,World.putObj_heap_same hl4,(World.putObj_heap_other hDl).trans hK4,hb4.grown (grownBy_putObj_c _ _ _) hb4.size (fun k e=>by cases e;exact h0l)⟩,hk4.trans (KeepsWalks.putObj _ hL4 rfl)⟩
 have:=hrow4.kept (grownBy_putObj_c w4 l (.loop {{apRec fn sv Bs D .ready none with state:=.busy} with state:=if(none:Option Code).isNone then .ready else .done,pending:=none})) (ownsRow_ne hrow4 hL4 (fun cur e=>by cases e))
 simpa[keyCells,Value.cells] using this
def Gives2(g:Nat)(lb:Array Value)(S:List Value→Prop)(w:World):Prop:=
 ∀ (l:Nat) (J:List Value→World→Prop) (W:World),Below w.heap.size w W→AbidesFrom W.heap.size J→
  (∀ pre x W1,J pre W1→pre.length < 2→IsKey x→YieldAt Fence.wide 0 Tryz.prog l #[x] W1 fun e W'=>e= .returned (.bool true)∧J (pre++[x]) W'∧KeepsWalks W1 W')→
  J [] W→
  CallsIn Fence.wide 1 Tryz.prog g (#[.func (.yield l) #[] #[]]++lb) W fun e W'=>(∃ v,e= .returned v)∧∃ xs,S xs∧J xs W'
set_option maxRecDepth 100000 in
set_option maxHeartbeats 4000000 in
theorem appendSeq(g:Nat)(lb:Array Value)(eg:∀ args w,(callFunc g args).run Tryz.prog w= .ok (.enter g args) w)(S:List Value→Prop)(w:World)(hseq:Gives2 g lb S w):
  CallsIn Fence.wide 2 Tryz.prog 89 #[.slice none 0 0,.func (.func g) #[] lb] w fun e w'=>∃ (v:Value) (ss:List Value),e= .returned v∧S ss∧w'.ownsRow w.heap.size 29 2 v ss.length (keyCells ss)∧Below w.heap.size w w':=by
 have hF:Fence.wide.fn 89:=trivial
 refine callsIn_of_wp_marks Tryz.func89 rfl hF ?_ rfl
 simp only[Tryz.ntmps89,List.size_toArray,List.length_cons,List.length_nil,Nat.reduceAdd,Nat.reduceSub,Array.replicate_succ,Array.replicate_zero,List.push_toArray,List.append_toArray,List.nil_append,List.cons_append]
 gi_wp2
 refine wpIn_rangeFunc ?_
 intro fn hfn
 obtain⟨W0,hW0⟩:∃ W0,w.alloc (.cells #[.slice none 0 0] 56)=W0:=⟨_,rfl⟩
 have hs0:W0.heap.size=w.heap.size+1:=by rw[← hW0];simp
 have hv0:W0.heap[w.heap.size]? =some (.cells #[.slice none 0 0] 56 (0,0)):=by rw[← hW0];exact World.alloc_heap_new w _
 have hb0:Below w.heap.size w W0:=by rw[← hW0];exact(Below.refl _ w).alloc (Nat.le_refl _) _
 rw[hW0]
 obtain⟨W1,hW1⟩:∃ W1,(W0.alloc (.deferred (some []))).alloc (.loop (apRec fn (.func (.func g) #[] lb) w.heap.size W0.heap.size .ready none))=W1:=⟨_,rfl⟩
 have hold:∀ k,k < W0.heap.size→W1.heap[k]? =W0.heap[k]? :=fun k hk=>by
  rw[← hW1];exact(Below.heap_alloc _ _ k (by simp;omega)).trans (Below.heap_alloc _ _ k hk)
 have hb1:Below w.heap.size w W1:=by rw[← hW1];exact(hb0.alloc hb0.size _).alloc (by have:=hb0.size;simp;omega) _
 have hs1:W1.heap.size=W0.heap.size+2:=by rw[← hW1];simp
 have hM:ApAt w fn (.func (.func g) #[] lb) w.heap.size (W0.heap.size+1) W0.heap.size [] W1:=
  ⟨⟨_,(hold w.heap.size (by omega)).trans hv0,⟨rfl,.inl ⟨rfl,rfl⟩⟩⟩,
   by rw[← hW1];have:=World.alloc_heap_new (W0.alloc (.deferred (some []))) (.loop (apRec fn (.func (.func g) #[] lb) w.heap.size W0.heap.size .ready none));rwa[World.size_alloc] at this,
   by rw[← hW1];exact(Below.heap_alloc _ _ _ (by simp)).trans (World.alloc_heap_new W0 _),hb1⟩
 refine⟨W0.heap.size+1,[{target:=.collected W0.heap.size,args:= #[]}],W1,{target:=.fn (.func g) lb,args:= #[.func (.yield (W0.heap.size+1)) #[] #[]]},W1,g,
  #[.func (.yield (W0.heap.size+1)) #[] #[]]++lb,W1,?_,?_,?_,?_,fun h=>by simp[Fence.wide] at h,?_⟩
 ·rw[← hW1];exact run_enterLoop_outer _ _ _ _ _
 ·simp[resolve,go_sem]
 ·intro f' _;trivial
 ·simp[invoke,go_sem,eg]
 ·refine(hseq (W0.heap.size+1) (ApAt w fn (.func (.func g) #[] lb) w.heap.size (W0.heap.size+1) W0.heap.size) W1 hb1 (ap_abides _ _ _ _ _ _ _ hb1.size)
   (fun pre x W hJ hl hx=>by
    obtain⟨p,q,rfl⟩:=hx
    exact apYield w fn _ w.heap.size (W0.heap.size+1) W0.heap.size (by omega) (by omega) (by omega) (Nat.le_refl _) (by omega) pre p q W hJ hl) hM).mono ?_
  rintro e W2 ⟨⟨v0,rfl⟩,ss,hS,h2⟩
  obtain⟨v,hv,hrow⟩:=h2.box
  have hend:=run_endLoop (P:=Tryz.prog) h2.L (by simp[apRec])
  obtain⟨W3,hW3⟩:∃ W3,W2.putObj (W0.heap.size+1) (.loop {apRec fn (.func (.func g) #[] lb) w.heap.size W0.heap.size .ready none with state:=.exhausted})=W3:=⟨_,rfl⟩
  rw[hW3] at hend
  have hg3:W2.grownBy W3 (some (W0.heap.size+1)):=by rw[← hW3];exact grownBy_putObj_c _ _ _
  have hv3:W3.heap[w.heap.size]? =some (.cells #[v] 56 (0,0)):=by rw[← hW3];exact(World.putObj_heap_other (by omega)).trans hv
  have hK3:W3.heap[W0.heap.size]? =some (.deferred (some [])):=by rw[← hW3];exact(World.putObj_heap_other (by omega)).trans h2.K
  have hrow3:=hrow.kept hg3 (ownsRow_ne hrow h2.L (fun cur e=>by cases e))
  have hb3:Below w.heap.size w W3:=h2.below.grown hg3 h2.below.size (fun k e=>by cases e;omega)
  obtain⟨hc3,hf3⟩:=cell_of_box hv3
  clear hW3
  refine⟨none,W3,hend,?_⟩
  gi_wp2
  rw[← hs0]
  refine⟨by simp,.inl ⟨_,_,rfl,run_takeDeferred hK3,?_⟩⟩
  exact⟨_,results_tmp rfl _ _ _,v,ss,rfl,hS,hrow3.kept (grownBy_putObj_c _ _ _) (ownsRow_ne hrow3 hK3 (fun cur e=>by cases e)),hb3.grown (grownBy_putObj_c _ _ _) hb3.size (fun k e=>by cases e;omega)⟩
end Go.Proofs.Cel
namespace Go.Proofs.Cel
open Go Go.RowKit Go.Maps Go.ChangeMaps
set_option maxRecDepth 100000 in
set_option maxHeartbeats 2000000 in
theorem collect(g:Nat)(lb:Array Value)(eg:∀ args w,(callFunc g args).run Tryz.prog w= .ok (.enter g args) w)(S:List Value→Prop)(w:World)(hseq:Gives2 g lb S w):
  CallsIn Fence.wide 3 Tryz.prog 59 #[.func (.func g) #[] lb] w fun e w'=>∃ (v:Value) (ss:List Value),e= .returned v∧S ss∧w'.ownsRow w.heap.size 29 2 v ss.length (keyCells ss)∧Below w.heap.size w w':=by
 have hF:Fence.wide.fn 59:=trivial
 have e89:∀ args w,(callFunc 89 args).run Tryz.prog w= .ok (.enter 89 args) w:=fun args w=>by kernel_rfl
 refine callsIn_of_wp Tryz.func59 rfl hF ?_ rfl
 simp only[Tryz.ntmps59,List.size_toArray,List.length_cons,List.length_nil,Nat.reduceAdd,Nat.reduceSub,Array.replicate_succ,Array.replicate_zero,List.push_toArray,List.append_toArray,List.nil_append,List.cons_append]
 gi_wp2
 refine⟨trivial,(appendSeq g lb eg S _ hseq).mono ?_⟩
 rintro e w' ⟨v,ss,rfl,hS,hrow,hb⟩
 gi_wp2
 go_ret
 exact⟨v,ss,rfl,hS,hrow,hb⟩
theorem enters61(args:Array Value)(w:World):(callFunc 61 args).run Tryz.prog w= .ok (.enter 61 args) w:=by kernel_rfl
theorem keys_gives(Bm b clock:Nat)(x1 x2:MapEntry)(hne:x1.born≠x2.born)(hb1:x1.born < clock)(hb2:x2.born < clock)(hk1:IsKey x1.key)(hk2:IsKey x2.key)(w:World)(hBm:Bm < w.heap.size)
  (hm:w.cell? ⟨Bm,0,none⟩=some (.map (some b))) (hb:w.heap[b]? =some (.map #[x1,x2] clock)):Gives2 61 #[.pointer (some ⟨Bm,0,none⟩)] (fun ss=>ss.length=2∧∀ y∈ss,y=x1.key∨y=x2.key) w:=by
 intro l J W hW hJ hY h0
 have hblt:b < w.heap.size:=(Array.getElem?_eq_some_iff.1 hb).1
 refine(keys1 l Bm b clock x1 x2 hne hb1 hb2 hk1 hk2 J hY W hJ ((hW.cell (p:=⟨Bm,0,none⟩) hBm).trans hm) ((hW.block b hblt).trans hb) h0).mono ?_
 rintro e W' ⟨hv,ss,h1,h2,h3⟩
 exact⟨hv,ss,⟨h1,h2⟩,h3⟩
set_option maxRecDepth 100000 in
theorem keysFn(mb:Option Nat)(w:World):Calls Tryz.prog 35 #[.map mb] w fun e w'=>e= .returned (.func (.func 61) #[] #[.pointer (some ⟨w.heap.size,0,none⟩)])∧w'=w.alloc (.cells #[.map mb] 96):=by
 go_enter Tryz.func35,Tryz.ntmps35
 go_wp2
 go_ret
 exact⟨rfl,rfl⟩
theorem collectKeys(Bm b clock:Nat)(x1 x2:MapEntry)(hne:x1.born≠x2.born)(hb1:x1.born < clock)(hb2:x2.born < clock)(hk1:IsKey x1.key)(hk2:IsKey x2.key)(w:World)(hBm:Bm < w.heap.size)
  (hm:w.cell? ⟨Bm,0,none⟩=some (.map (some b))) (hb:w.heap[b]? =some (.map #[x1,x2] clock)):
  Calls Tryz.prog 59 #[.func (.func 61) #[] #[.pointer (some ⟨Bm,0,none⟩)]] w fun e w'=>∃ (g cap:Nat) (cur:Array Value) (y1 y2:Value),e= .returned (.slice (some ⟨g,0,none⟩) 2 cap)∧w.heap.size≤g∧w'.heap[g]? =some (.cells cur 29 (0,0))∧2≤cap∧cur.size=cap * 2∧cur.toList.take 4=y1.cells.toList++y2.cells.toList∧
   (y1=x1.key∨y1=x2.key)∧(y2=x1.key∨y2=x2.key)∧Below w.heap.size w w':=by
 refine(callsIn_wide.1 (collect 61 _ enters61 _ w (keys_gives Bm b clock x1 x2 hne hb1 hb2 hk1 hk2 w hBm hm hb))).mono ?_
 rintro e w' ⟨v,ss,rfl,⟨hl,hks⟩,hrow,hB⟩
 match ss,hl with
 |[y1,y2],_=>
  rcases hrow.2 with⟨_,h0⟩|⟨g,cap,cur,rfl,hg,hgb,h1,h2,h3,h4⟩
  ·simp at h0
  ·exact⟨g,cap,cur,y1,y2,rfl,hg,hgb,h1,h3,by simpa[keyCells] using h4,hks y1 (by simp),hks y2 (by simp),hB⟩
end Go.Proofs.Cel
