/-
 Part 19 of the proof of Rows.DumpReadsCardSaid: Sheet.Cells at a sheet of two cells: the oracle is true.
 No conditions.
-/
import Derived.Test.YtihkphfmnnndfaaGreatDoorT01
import Derived.Test.YtihkphfmnnndfaaGreatDoorT18
namespace Go.PanE
open Go.Proofs Go.RowKit Go.Proofs.Cel
def hS(a b c d:Int):Heap:={t:=T.put .nil 14 (.row 29 [.int .i64 a,.int .i64 b,.int .i64 c,.int .i64 d] 2 false),nx:=15,wm:=15}
def unitB(r:Option (Value×Heap)):Bool:=match r with|some (.tuple ⟨[]⟩,_)=>true|_=>false
noncomputable def sortB(a b c d:Int):Bool:=unitB (runA En orcT (drawnF En) 5000 30 60 [.slice (some ⟨14,0,none⟩) 2 2,.func (.func 36) #[] #[]] (hS a b c d))
theorem sort1111:sortB 1 1 1 1=true:=by kernel_rfl
theorem sort1122:sortB 1 1 2 2=true:=by kernel_rfl
theorem sort2211:sortB 2 2 1 1=true:=by kernel_rfl
theorem sort2222:sortB 2 2 2 2=true:=by kernel_rfl
theorem hS_get(a b c d:Int)(k:Nat):(hS a b c d).get k=if k=14 then some (.row 29 [.int .i64 a,.int .i64 b,.int .i64 c,.int .i64 d] 2 false) else none:=by
 rw[Heap.get_eq]
 show(if k < 15 then(T.put .nil 14 _).get k else none)=_
 rw[T.get_put]
 by_cases e:k=14
 ·subst e;simp
 ·rw[if_neg e,if_neg e];simp
theorem sort_calls{μ:Loc}{h:Heap}{w0 w:World}(R:Rep μ h w0)(B:Below w0.heap.size w0 w){a b c d:Int}(hs:sortB a b c d=true){g cap:Nat}{cur:Array Value}(hg:w0.heap.size≤g)(hgb:w.heap[g]? =some (.cells cur 29 (0,0)))(h2:2≤cap)(hcs:cur.size=cap * 2)
  (h4:cur.toList.take 4=[.int .i64 a,.int .i64 b,.int .i64 c,.int .i64 d]):
  Calls Tryz.prog 60 #[.slice (some ⟨g,0,none⟩) 2 cap,.func (.func 36) #[] #[]] w fun e u=>e= .returned (.tuple #[])∧Below w0.heap.size w u:=by
 let μS:Loc:=fun k=>if k < 11 then μ k else if k=14 then some ⟨g,0,4,(cap - 2) * 2,2⟩ else none
 have hglt:g < w.heap.size:=(Array.getElem?_eq_some_iff.1 hgb).1
 have m14:μS 14=some ⟨g,0,4,(cap - 2) * 2,2⟩:=rfl
 have RS:Rep μS (hS a b c d) w:=by
  refine⟨?_,?_,?_,?_,?_⟩
  ·intro k o hk
   rw[hS_get] at hk
   split at hk
   ·rename_i e
    subst e
    simp only[Option.some.injEq] at hk;subst hk
    refine⟨_,m14,cur,(0,0),hgb,rfl,rfl,?_,⟨fun h=>by simp at h,fun _=>rfl⟩,?_,⟨fun _ i _ hh=>by simp at hh,fun h=>by cases h⟩⟩
    ·show cur.size=0+4+(cap - 2) * 2
     omega
    ·show LRel _ _ ((cur.toList.drop 0).take 4)
     rw[List.drop_zero,h4]
     exact .cons (.int _ _) (.cons (.int _ _) (.cons (.int _ _) (.cons (.int _ _) .nil)))
   ·simp at hk
  ·intro k k' o o' p p' hk hk' _ _ _
   rw[hS_get] at hk hk'
   split at hk
   ·split at hk'
    ·rename_i e e';rw[e,e']
    ·simp at hk'
   ·simp at hk
  ·intro k hk
   have hk:15≤k:=hk
   show(if k < 11 then μ k else if k=14 then _ else none)=none
   rw[if_neg (by omega),if_neg (by omega)]
  ·intro k p hk
   have hk:(if k < 11 then μ k else if k=14 then some ⟨g,0,4,(cap - 2) * 2,2⟩ else none)=some p:=hk
   split at hk
   ·exact Nat.lt_of_lt_of_le (R.bound k p hk) B.size
   ·split at hk
    ·simp only[Option.some.injEq] at hk;subst hk;exact hglt
    ·simp at hk
  ·intro k hk
   have:k < 11:=hk
   obtain⟨p,hp,h1,h2⟩:=R.glob k hk
   exact⟨p,by show(if k < 11 then μ k else _)=_;rw[if_pos this];exact hp,h1,h2⟩
 unfold sortB at hs
 rw[drawnF_eq] at hs
 cases er:runA En orcT (drawn En) 5000 30 60 [.slice (some ⟨14,0,none⟩) 2 2,.func (.func 36) #[] #[]] (hS a b c d) with
 |none=>rw[er] at hs;simp[unitB] at hs
 |some r=>
  obtain⟨v,h'⟩:=r
  rw[er] at hs
  have hv:v= .tuple #[]:=by
   unfold unitB at hs
   split at hs
   ·rename_i e
    simp only[Option.some.injEq,Prod.mk.injEq] at e
    exact e.1
   ·simp at hs
  subst hv
  have hc:=(callsT 5000 30).1 60 _ _ _ _ er μS w [.slice (some ⟨g,0,none⟩) 2 cap,.func (.func 36) #[] #[]] RS
   (.cons (.slice 14 0 2 2 cap ⟨g,0,4,(cap - 2) * 2,2⟩ m14 (.inr ⟨by simp,rfl,h2,by show 0+cap * 2≤4+(cap - 2) * 2;omega⟩)) (.cons (.func _ _ _ _ _ rfl (fun i x x' h=>by simp at h) rfl (fun i x x' h=>by simp at h)) .nil))
  refine hc.mono ?_
  rintro e u ⟨ν,v',rfl,G,rv⟩
  cases rv with
  |tuple _ xs' h1 h2=>
   have:xs'= #[]:=Array.eq_empty_of_size_eq_zero h1.symm
   subst this
   refine⟨rfl,G.os,G.tape,G.out,G.size,fun k hk=>?_⟩
   refine G.frame k (Nat.lt_of_lt_of_le hk B.size) ?_
   rintro⟨b',o,p,ho,hp,rfl⟩
   rw[hS_get] at ho
   split at ho
   ·rename_i e
    subst e
    rw[m14] at hp
    simp only[Option.some.injEq] at hp;subst hp
    simp at hk;omega
   ·simp at ho
theorem enters59(args:Array Value)(w:World):(callFunc 59 args).run Tryz.prog w= .ok (.enter 59 args) w:=by kernel_rfl
theorem enters60(args:Array Value)(w:World):(callFunc 60 args).run Tryz.prog w= .ok (.enter 60 args) w:=by kernel_rfl
theorem enters34(args:Array Value)(w:World):(callFunc 34 args).run Tryz.prog w= .ok (.enter 34 args) w:=by kernel_rfl
theorem enters35(args:Array Value)(w:World):(callFunc 35 args).run Tryz.prog w= .ok (.enter 35 args) w:=by kernel_rfl
/-- The keys (1, 1) and (2, 2). -/
def K12(x:Value):Prop:=x= .agg #[.int .i64 1,.int .i64 1]∨x= .agg #[.int .i64 2,.int .i64 2]
theorem sort_keys{y1 y2:Value}(h1:K12 y1)(h2:K12 y2):∃ a b c d,y1.cells.toList++y2.cells.toList=[.int .i64 a,.int .i64 b,.int .i64 c,.int .i64 d]∧sortB a b c d=true:=by
 rcases h1 with rfl|rfl <;>rcases h2 with rfl|rfl
 ·exact⟨1,1,1,1,rfl,sort1111⟩
 ·exact⟨1,1,2,2,rfl,sort1122⟩
 ·exact⟨2,2,1,1,rfl,sort2211⟩
 ·exact⟨2,2,2,2,rfl,sort2222⟩
set_option maxRecDepth 100000 in
set_option maxHeartbeats 2000000 in
theorem cells_two{μ:Loc}{h:Heap}{w:World}(R:Rep μ h w)(pb b clock:Nat)(x1 x2:MapEntry)(hne:x1.born≠x2.born)(hb1:x1.born < clock)(hb2:x2.born < clock)(hk1:K12 x1.key)(hk2:K12 x2.key)
  (hm:w.cell? ⟨pb,0,none⟩=some (.map (some b))) (hb:w.heap[b]? =some (.map #[x1,x2] clock)):
  Calls Tryz.prog 18 #[.pointer (some ⟨pb,0,none⟩)] w fun e u=>∃ g cap:Nat,e= .returned (.slice (some ⟨g,0,none⟩) 2 cap)∧g < u.heap.size∧2≤cap∧Below w.heap.size w u:=by
 have i1:IsKey x1.key:=by rcases hk1 with e|e <;>exact⟨_,_,e⟩
 have i2:IsKey x2.key:=by rcases hk2 with e|e <;>exact⟨_,_,e⟩
 have hblt:b < w.heap.size:=(Array.getElem?_eq_some_iff.1 hb).1
 have e34:=enters34
 have e35:=enters35
 have hSorted:∀ w1:World,w1=w.alloc (.cells #[.map (some b)] 96)→Calls Tryz.prog 34 #[.func (.func 61) #[] #[.pointer (some ⟨w.heap.size,0,none⟩)],.func (.func 36) #[] #[]] w1 fun e u=>∃ g cap:Nat,e= .returned (.slice (some ⟨g,0,none⟩) 2 cap)∧g < u.heap.size∧2≤cap∧Below w.heap.size w u:=by
  intro w1 hw1
  have e59:=enters59
  have e60:=enters60
  have hB1:Below w.heap.size w w1:=by rw[hw1];exact(Below.refl _ w).alloc (Nat.le_refl _) _
  have hm1:w1.cell? ⟨w.heap.size,0,none⟩=some (.map (some b)):=by
   have:w1.heap[w.heap.size]? =some (.cells #[.map (some b)] 96 (0,0)):=by rw[hw1];exact World.alloc_heap_new w _
   simp[World.cell?,this]
  have hs1:w1.heap.size=w.heap.size+1:=by rw[hw1];simp
  have hck:=collectKeys w.heap.size b clock x1 x2 hne hb1 hb2 i1 i2 w1 (by omega) hm1 ((hB1.block b hblt).trans hb)
  clear hw1
  go_enter Tryz.func34,Tryz.ntmps34
  go_wp2_with (go_at_fn 59;refine hck.mono ?_)
  rintro e w2 ⟨g,cap,cur,y1,y2,rfl,hg,hgb,hcap,hcs,h4,hy1,hy2,hB2⟩
  have k1:K12 y1:=by rcases hy1 with rfl|rfl <;>assumption
  have k2:K12 y2:=by rcases hy2 with rfl|rfl <;>assumption
  obtain⟨a,b',c,d,h5,hs⟩:=sort_keys k1 k2
  have hB:Below w.heap.size w w2:=hB1.trans (hB2.mono (by omega))
  have hsc:=sort_calls R hB hs (by omega) hgb hcap hcs (h4.trans h5)
  go_wp2_with (go_at_fn 60;refine hsc.mono ?_)
  rintro e w3 ⟨rfl,hB3⟩
  go_wp2
  go_ret
  exact⟨g,cap,rfl,Nat.lt_of_lt_of_le (Array.getElem?_eq_some_iff.1 hgb).1 hB3.size,hcap,hB.trans hB3⟩
 go_enter Tryz.func18,Tryz.ntmps18
 go_wp2_with (go_at_fn 35;refine(keysFn (some b) _).mono ?_)
 rintro e w1 ⟨rfl,rfl⟩
 go_wp2_with (go_at_fn 34;refine(hSorted _ rfl).mono ?_)
 rintro e u ⟨g,cap,rfl,hgl,hcap,hB⟩
 go_wp2
 go_ret
 exact⟨g,cap,rfl,hgl,hcap,hB⟩
end Go.PanE
