/-
 Part 18 of the proof of Rows.DumpReadsCardSaid: errors.As, as source.told and tree.Parse ask it.
 errors.As: the oracle is true.
 strings.Builder: copyCheck and String, wherever the builder lies.
 The oracles of strings.Builder are true.
 The oracles' table, and what the machine's calls are worth at this program.
 The walk of an open region, made faster: what hangs on the text alone is asked of the text.
 The memory at the start; what Sheet.Cells is told to do at a sheet of two cells.
 No conditions.
-/
import Derived.Test.YtihkphfmnnndfaaGreatDoorT09
import Derived.Test.YtihkphfmnnndfaaGreatDoorT10
import Derived.Test.YtihkphfmnnndfaaGreatDoorT15
import Derived.Test.YtihkphfmnnndfaaGreatDoorT16
import Derived.Test.YtihkphfmnnndfaaGreatDoorT17
import Derived.Laws.Externs
import Derived.Lib.Builder
import Derived.Lib.UnsafeStr
import Derived.Lib.Walk
import Derived.Shelf.RegionOpenPlain
import Derived.WalkKit
namespace Go.PanE
open Go.Proofs Go.RowKit
def errT(cs:Array Value):Bool:=match cs.toList with|[.pointer (some ⟨10,84,none⟩)]=>true|_=>false
/-- errors.As. -/
def orc33(args:List Value)(h:Heap):Option (Value×Heap):=
 match args with
 |[.nilIface,_]=>some (.bool false,h)
 |[.iface t (.pointer (some ⟨b,o,none⟩)),.iface tt (.pointer (some ⟨c,k,none⟩))]=>
  match h.get 0 with
  |some (.row _ [.iface 168 (.agg cs)] 0 _)=>
   bif errT cs then
    bif (Nat.beq t 149 && Nat.beq tt 150) || (Nat.beq t 242 && Nat.beq tt 243) then
     match storeC h ⟨c,k,none⟩ [.pointer (some ⟨b,o,none⟩)] with
     |some h'=>some (.bool true,h')
     |none=>none
    else bif Nat.beq t 309 && Nat.beq tt 150 then
     match h.get c with
     |some (.row _ l _ _)=>bif Nat.blt k l.length then some (.bool false,h) else none
     |_=>none
    else none
   else none
  |_=>none
 |_=>none
/-- The types' error, where errors.As looks for it. -/
theorem errorType_at{μ:Loc}{h:Heap}{w:World}(R:Rep μ h w){el:TypeId}{cs:Array Value}{ro:Bool}(hg:h.get 0=some (.row el [.iface 168 (.agg cs)] 0 ro))(hc:errT cs=true):
  w.cell? ⟨0,0,none⟩=some (.iface 168 (.agg #[.pointer (some ⟨10,84,none⟩)])):=by
 obtain⟨arr,fr,ha,hr⟩:=glob_row R (g:=0) (by decide) hg
 obtain⟨x,hx,rx⟩:=hr.one
 cases rx with
 |iface _ _ v' rv=>
  cases rv with
  |agg _ ys h1 h2=>
   unfold errT at hc
   split at hc
   ·rename_i hl
    have hcs:cs= #[.pointer (some ⟨10,84,none⟩)]:=by
     apply Array.ext';simpa using hl
    subst hcs
    have hy:ys.size=1:=by rw[← h1];rfl
    have r0:=h2 0 _ ys[0] rfl (Array.getElem?_eq_getElem (by omega))
    have hy0:ys= #[ys[0]]:=by
     apply Array.ext
     ·simp[hy]
     ·intro i hi hi'
      have:i=0:=by omega
      subst this;rfl
    obtain⟨q,hq,q1,q2⟩:=R.glob 10 (by decide)
    generalize ys[0]=y at r0 hy0
    cases r0 with
    |ptr _ _ p hp=>
     rw[hq] at hp
     simp only[Option.some.injEq] at hp;subst hp
     rw[q1,q2] at hy0
     simp only[World.cell?,ha,Option.isSome_none,Bool.false_eq_true,if_false]
     rw[← Array.getElem?_toList,hx,hy0];rfl
   ·simp at hc
/-- A place of a live row. -/
theorem live_cell{μ:Loc}{h:Heap}{w:World}(R:Rep μ h w){c k:Nat}{el:TypeId}{l:List Value}{es:Nat}{ro:Bool}(hg:h.get c=some (.row el l es ro))(hk:k < l.length){p:Place}(hp:μ c=some p):
  (∃ old,w.cell? ⟨p.pb,p.po+k,none⟩=some old)∧(ro=false→w.frozen? ⟨p.pb,p.po+k,none⟩=false):=by
 obtain⟨q,hq,ho⟩:=R.live c _ hg
 rw[hp] at hq
 simp only[Option.some.injEq] at hq;subst hq
 obtain⟨arr,fr,ha,hs,_,hz,_,_,hfr⟩:=ho
 have hlt:p.po+k < arr.size:=by omega
 refine⟨⟨arr[p.po+k],?_⟩,fun hro=>?_⟩
 ·simp only[World.cell?,ha,Option.isSome_none,Bool.false_eq_true,if_false]
  exact Array.getElem?_eq_getElem hlt
 ·have:=hfr.1 hro (p.po+k) (by omega)
  obtain⟨lo,hi⟩:=fr
  simp only[World.frozen?,ha]
  rw[Bool.and_eq_false_iff]
  simp only[decide_eq_false_iff_not]
  by_cases h1:lo≤p.po+k
  ·right
   intro h2
   exact this ⟨h1,h2,hlt⟩
  ·left;exact h1
end Go.PanE
namespace Go.PanE
open Go.Proofs Go.RowKit
/-- What a hit does. -/
def HitAt(t tt:TypeId):Prop:=∀ (e a:Addr) (old:Value) (w:World),w.cell? ⟨0,0,none⟩=some (.iface 168 (.agg #[.pointer (some ⟨10,84,none⟩)]))→w.cell? a=some old→w.frozen? a=false→
 Calls Tryz.prog 33 #[.iface t (.pointer (some e)),.iface tt (.pointer (some a))] w fun ev w'=>ev= .returned (.bool true)∧∃ w1,Below w.heap.size w w1∧w'=w1.setCell a (.pointer (some e))
theorem hit_source:HitAt 149 150:=by
 intro e a old w hg h0 hf
 refine(AsSource.as_hit e a old w hg h0 hf).mono ?_
 rintro ev u ⟨rfl,rfl⟩
 exact⟨rfl,_,(Joins.below_alloc3 w _ _ _).alloc (by simp;omega) _,rfl⟩
theorem hit_tree:HitAt 242 243:=by
 intro e a old w hg h0 hf
 refine(AsTree.as_hit e a old w hg h0 hf).mono ?_
 rintro ev u ⟨rfl,rfl⟩
 exact⟨rfl,_,(Joins.below_alloc3 w _ _ _).alloc (by simp;omega) _,rfl⟩
theorem hit_go{t tt:TypeId}(H:HitAt t tt){h h':Heap}{b o c k:Nat}{el:TypeId}{cs:Array Value}{ro:Bool}(hg:h.get 0=some (.row el [.iface 168 (.agg cs)] 0 ro))(hc:errT cs=true)
  (e:storeC h ⟨c,k,none⟩ [.pointer (some ⟨b,o,none⟩)]=some h'):Keep h h'∧∀ (μ:Loc) (w:World) (args':List Value),Rep μ h w→LRel μ [.iface t (.pointer (some ⟨b,o,none⟩)),.iface tt (.pointer (some ⟨c,k,none⟩))] args'→
  Calls Tryz.prog 33 ⟨args'⟩ w fun e u=>∃ ν v',e= .returned v'∧Go1 μ h w ν h' u∧VRel ν (.bool true) v':=by
 refine⟨storeC_keep e,fun μ w args' R hl=>?_⟩
 obtain⟨a',b',rfl,ra,rb⟩:=hl.two
 cases ra with
 |iface _ _ x' rx=>
  cases rb with
  |iface _ _ y' ry=>
   cases rx with
   |ptr _ _ p hp=>
    cases ry with
    |ptr _ _ q hq=>
     have hrow:∃ el2 l es,h.get c=some (.row el2 l es false)∧k < l.length:=by
      unfold storeC at e
      split at e
      ·rename_i el2 l es hg2 _
       refine⟨el2,l,es,hg2,?_⟩
       simp only[setL,oneCell] at e
       by_cases hk:k < l.length
       ·exact hk
       ·rw[if_neg hk] at e;simp at e
      ·simp at e
     obtain⟨el2,l,es,hg2,hk⟩:=hrow
     obtain⟨⟨old,hold⟩,hfr⟩:=live_cell R hg2 hk hq
     refine(H ⟨p.pb,p.po+o,none⟩ ⟨q.pb,q.po+k,none⟩ old w (errorType_at R hg hc) hold (hfr rfl)).mono ?_
     rintro ev u ⟨rfl,w1,hB,rfl⟩
     have G:=go_below R hB
     have hlt:q.pb < w.heap.size:=R.bound _ _ hq
     have c1:w1.cell? ⟨q.pb,q.po+k,none⟩=some old:=by rw[hB.cell hlt];exact hold
     have f1:w1.frozen? ⟨q.pb,q.po+k,none⟩=false:=by rw[hB.frozen hlt];exact hfr rfl
     obtain⟨u,hu,G2⟩:=storeC_ok (P:=Tryz.prog) hq (o:=k) [.pointer (some ⟨b,o,none⟩)] [.pointer (some ⟨p.pb,p.po+o,none⟩)] 0 h h' w1 G.rep
      ⟨rfl,fun i x x' h1 h2=>by
       match i with
       |0=>
        simp only[List.getElem?_cons_zero,Option.some.injEq] at h1 h2;subst h1;subst h2
        exact .ptr _ _ _ hp
       |i+1=>simp at h1⟩ e
     have hu2:u=w1.setCell ⟨q.pb,q.po+k,none⟩ (.pointer (some ⟨p.pb,p.po+o,none⟩)):=by
      simp only[storeCells,Sem.run_bind,Addr.add,Nat.add_zero] at hu
      rw[run_store _ _ _ _ _ rfl] at hu
      simp only[if_true,c1,f1,Bool.false_eq_true,if_false,Result.andThen_ok,Sem.run_pure] at hu
      simpa using hu.symm
     subst hu2
     exact⟨μ,_,rfl,G.trans G2,.bool _⟩
theorem orc33_ok{args:List Value}{h h':Heap}{v:Value}(e:orc33 args h=some (v,h')):Keep h h'∧∀ (μ:Loc) (w:World) (args':List Value),Rep μ h w→LRel μ args args'→
  Calls Tryz.prog 33 ⟨args'⟩ w fun e u=>∃ ν v',e= .returned v'∧Go1 μ h w ν h' u∧VRel ν v v':=by
 unfold orc33 at e
 split at e
 ·rename_i x
  simp only[Option.some.injEq,Prod.mk.injEq] at e
  obtain⟨rfl,rfl⟩:=e
  refine⟨Keep.refl _,fun μ w args' R hl=>?_⟩
  obtain⟨a',b',rfl,ra,rb⟩:=hl.two
  cases ra
  refine(AsSource.as_nil b' w).mono ?_
  rintro e u ⟨rfl,rfl⟩
  exact⟨μ,_,rfl,Go1.refl R,.bool _⟩
 ·rename_i t b o tt c k
  split at e
  ·rename_i el cs ro hg
   cases hc:errT cs with
   |false=>rw[hc] at e;simp at e
   |true=>
    rw[hc] at e
    simp only[cond_true] at e
    cases h1:((Nat.beq t 149 && Nat.beq tt 150) || (Nat.beq t 242 && Nat.beq tt 243)) with
    |true=>
     rw[h1] at e
     simp only[cond_true] at e
     split at e
     ·rename_i h2 hst
      simp only[Option.some.injEq,Prod.mk.injEq] at e
      obtain⟨rfl,rfl⟩:=e
      rw[Bool.or_eq_true,Bool.and_eq_true,Bool.and_eq_true] at h1
      rcases h1 with⟨a1,a2⟩|⟨a1,a2⟩
      ·have:=Nat.eq_of_beq_eq_true a1;subst this
       have:=Nat.eq_of_beq_eq_true a2;subst this
       exact hit_go hit_source hg hc hst
      ·have:=Nat.eq_of_beq_eq_true a1;subst this
       have:=Nat.eq_of_beq_eq_true a2;subst this
       exact hit_go hit_tree hg hc hst
     ·simp at e
    |false=>
     rw[h1] at e
     simp only[cond_false] at e
     cases h2:(Nat.beq t 309 && Nat.beq tt 150) with
     |false=>rw[h2] at e;simp at e
     |true=>
      rw[h2] at e
      simp only[cond_true] at e
      split at e
      ·rename_i el2 l es ro2 hg2
       cases h3:Nat.blt k l.length with
       |false=>rw[h3] at e;simp at e
       |true=>
        rw[h3] at e
        simp only[cond_true,Option.some.injEq,Prod.mk.injEq] at e
        obtain⟨rfl,rfl⟩:=e
        rw[Bool.and_eq_true] at h2
        have:=Nat.eq_of_beq_eq_true h2.1;subst this
        have:=Nat.eq_of_beq_eq_true h2.2;subst this
        refine⟨Keep.refl _,fun μ w args' R hl=>?_⟩
        obtain⟨a',b',rfl,ra,rb⟩:=hl.two
        cases ra with
        |iface _ _ x' rx=>
         cases rb with
         |iface _ _ y' ry=>
          cases rx with
          |ptr _ _ p hp=>
           cases ry with
           |ptr _ _ q hq=>
            obtain⟨⟨old,hold⟩,_⟩:=live_cell R hg2 (by simpa using h3) hq
            refine(AsSource.as_miss ⟨p.pb,p.po+o,none⟩ ⟨q.pb,q.po+k,none⟩ old w (errorType_at R hg hc) hold).mono ?_
            rintro ev u ⟨rfl,hB⟩
            exact⟨μ,_,rfl,go_below R hB,.bool _⟩
      ·simp at e
  ·simp at e
 ·simp at e
end Go.PanE
namespace Go.Proofs.Bld
open Go Go.RowKit
theorem enters190(args:Array Value)(w:World):(callFunc 190 args).run Tryz.prog w= .ok (.enter 190 args) w:=by kernel_rfl
set_option maxRecDepth 100000 in
set_option maxHeartbeats 1000000 in
theorem cc_used(a:Addr)(w:World)(ha:a.add 0=a)(h0:w.cell? a=some (.pointer (some a))):Calls Tryz.prog 190 #[.pointer (some a)] w fun e w'=>e= .returned (.tuple #[])∧w'=w:=by
 obtain⟨j,hj,_⟩:=Option.map_eq_some_iff.1 (show(Tryz.prog.info? 226).map (·.size)=some 2 by kernel_rfl)
 go_enter Tryz.func190,Tryz.ntmps190
 go_wp2
 rw[Lib.run_neq_ptr_same w _ Tryz.underlying224 hj]
 go_wp2
 go_end0
 exact⟨rfl,rfl⟩
set_option maxRecDepth 100000 in
set_option maxHeartbeats 1000000 in
theorem cc_fresh(b e:Nat)(w:World)(h0:w.cell? ⟨b,0,none⟩=some (.pointer none))(hsh:w.shape? b=some (e,2))(he:liesAt Tryz.prog Tryz.prog.depth e (2 / Tryz.prog.cellsOf e) 0 226 1=true)(hfz:w.frozen? ⟨b,0,none⟩=false):
  Calls Tryz.prog 190 #[.pointer (some ⟨b,0,none⟩)] w fun e w'=>e= .returned (.tuple #[])∧w'=w.setCell ⟨b,0,none⟩ (.pointer (some ⟨b,0,none⟩)):=by
 obtain⟨j,hj,hjs⟩:=Option.map_eq_some_iff.1 (show(Tryz.prog.info? 226).map (·.size)=some 2 by kernel_rfl)
 go_enter Tryz.func190,Tryz.ntmps190
 go_wp2
 rw[Lib.run_to_unsafe w ⟨b,0,none⟩ Tryz.underlying224 Tryz.underlying123 hj (by rw[hjs];decide) hsh (Nat.zero_lt_succ 1)]
 simp only[Result.andThen]
 rw[Oper.upon_value]
 go_wp2
 rw[@run_callFunc_extern Tryz.prog 215 _ Extern.AbiNoEscape.same Tryz.func215 (by kernel_rfl) (by kernel_rfl) (by kernel_rfl) (by kernel_rfl)]
 rw[Lib.run_noEscape]
 simp only[Result.andThen]
 rw[Oper.upon_value]
 go_wp2
 rw[Lib.run_from_unsafe w ⟨b,0,none⟩ Tryz.underlying123 Tryz.underlying224 hj hsh he]
 simp only[Result.andThen]
 rw[Oper.upon_value]
 go_wp2
 go_end0
 exact⟨rfl,rfl⟩
set_option maxHeartbeats 2000000 in
set_option maxRecDepth 100000 in
theorem str_some(b g cap T:Nat)(l:List UInt8)(p:Value)(cur:Array Value)(fr fr':Nat×Nat)(w:World)(hbk:w.heap[b]? =some (.cells #[p,.slice (some ⟨g,0,none⟩) l.length cap] T fr'))(hg:w.heap[g]? =some (.cells cur 5 fr))(h0:l≠[])(hnc:l.length≤cap)(hcs:l.length≤cur.size)(hcm:l.length≤140737488355328)
  (hb:∀ (j:Nat) x,l[j]? =some x→cur[j]? =some (.int .u8 x.toNat)):
  Calls Tryz.prog 132 #[.pointer (some ⟨b,0,none⟩)] w fun e w'=>e= .returned (.string ⟨l.toArray⟩)∧w'=w.drew.freeze ⟨g,0,none⟩ l.length:=by
 have hl0:l.length≠0:=by simpa using h0
 have c1:w.drew.cell? ⟨b,1,none⟩=some (.slice (some ⟨g,0,none⟩) l.length cap):=by
  have:w.drew.heap[b]? =some (.cells #[p,.slice (some ⟨g,0,none⟩) l.length cap] T fr'):=hbk
  simp[World.cell?,this]
 have hSD:(Builtin.unsafeSliceData_ #[108] 266 #[.slice (some ⟨g,0,none⟩) l.length cap]).run Tryz.prog w.drew= .ok (.pointer (some ⟨g,0,none⟩)) w.drew:=
  Lib.run_unsafeSliceData_row _ _ _ _ _ _ (by omega)
 have hUS:(Builtin.unsafeString_ #[266,3] 9 #[.pointer (some ⟨g,0,none⟩),.int .i64 l.length]).run Tryz.prog w.drew= .ok (.string ⟨l.toArray⟩) (w.drew.freeze ⟨g,0,none⟩ l.length):=by
  refine Lib.run_unsafeString_row w.drew 266 3 9 5 Tryz.underlying266 (by kernel_rfl) g cur.size (by have hg':w.drew.heap[g]? =some (.cells cur 5 fr):=hg;simp[World.shape?,hg']) l h0 (by omega) (by omega) ?_
  intro j x hx
  have hg':w.drew.heap[g]? =some (.cells cur 5 fr):=hg
  have hj:(⟨g,0,none⟩:Addr).add j=⟨g,j,none⟩:=by
   unfold Addr.add;split
   ·rename_i e;subst e;rfl
   ·simp
  rw[hj]
  simp[World.cell?,hg',hb j x hx]
 have mixed:Tryz.prog.follows .mixedOrders=true:=by kernel_rfl
 go_enter Tryz.func132,Tryz.ntmps132
 go_wp2
 go_region_o
 all_goals (go_wp2;go_ret;exact⟨rfl,rfl⟩)
set_option maxHeartbeats 2000000 in
set_option maxRecDepth 100000 in
theorem str_nil(b T:Nat)(p:Value)(fr':Nat×Nat)(w:World)(hbk:w.heap[b]? =some (.cells #[p,.slice none 0 0] T fr')):
  Calls Tryz.prog 132 #[.pointer (some ⟨b,0,none⟩)] w fun e w'=>e= .returned (.string ⟨#[]⟩)∧w'=w.drew:=by
 have hUS:(Builtin.unsafeString_ #[266,3] 9 #[.pointer none,.int .i64 0]).run Tryz.prog w.drew= .ok (.string .empty) w.drew:=Lib.run_unsafeString_none w.drew _ _ _ none
 have c1:w.drew.cell? ⟨b,1,none⟩=some (.slice none 0 0):=by
  have:w.drew.heap[b]? =some (.cells #[p,.slice none 0 0] T fr'):=hbk
  simp[World.cell?,this]
 have hSD:(Builtin.unsafeSliceData_ #[108] 266 #[.slice none 0 0]).run Tryz.prog w.drew= .ok (.pointer none) w.drew:=rfl
 have mixed:Tryz.prog.follows .mixedOrders=true:=by kernel_rfl
 go_enter Tryz.func132,Tryz.ntmps132
 go_wp2
 go_region_o
 all_goals (go_wp2;go_ret;exact⟨rfl,rfl⟩)
end Go.Proofs.Bld
namespace Go.PanE
open Go.Proofs Go.RowKit
/-- Bytes in cells. -/
def bytes8:List Value→Option (List UInt8)
 |[]=>some []
 | .int .u8 n::l=>bif decide (0≤n) && decide (n < 256) then(match bytes8 l with|some r=>some (UInt8.ofNat n.toNat::r)|none=>none) else none
 |_=>none
theorem bytes8_map:∀ l:List UInt8,bytes8 (l.map fun x=>.int .u8 (x.toNat:Int))=some l:=by
 intro l
 induction l with
 |nil=>rfl
 |cons x l ih=>
  have h1:decide ((0:Int)≤(x.toNat:Int))=true:=by simp
  have h2:decide ((x.toNat:Int) < 256)=true:=by
   have:=x.toNat_lt
   simp only[decide_eq_true_eq];omega
  simp only[List.map_cons,bytes8,h1,h2,Bool.and_self,cond_true,ih]
  simp
theorem bytes8_at:∀ (cs:List Value) (l:List UInt8),bytes8 cs=some l→cs=l.map fun x=>.int .u8 (x.toNat:Int):=by
 intro cs
 induction cs with
 |nil=>intro l e;simp only[bytes8,Option.some.injEq] at e;subst e;rfl
 |cons v cs ih=>
  intro l e
  unfold bytes8 at e
  split at e
  ·rename_i h;simp at h
  ·rename_i n cs' h
   simp only[List.cons.injEq] at h;obtain⟨rfl,rfl⟩:=h
   cases hb:(decide (0≤n) && decide (n < 256)) with
   |false=>rw[hb] at e;simp at e
   |true=>
    rw[hb] at e
    simp only[cond_true] at e
    split at e
    ·rename_i r hr
     simp only[Option.some.injEq] at e;subst e
     rw[ih r hr]
     simp only[Bool.and_eq_true,decide_eq_true_eq] at hb
     simp only[List.map_cons,List.cons.injEq,Value.int.injEq,true_and,and_true]
     simp only[UInt8.toNat_ofNat']
     omega
    ·simp at e
  ·simp at e
/-- copyCheck. -/
def orc190(args:List Value)(h:Heap):Option (Value×Heap):=
 match args with
 |[.pointer (some ⟨b,0,none⟩)]=>match h.get b with
  |some (.row el [.pointer none,_] 0 false)=>bif Nat.beq el 226 || Nat.beq el 228 then
    (match storeC h ⟨b,0,none⟩ [.pointer (some ⟨b,0,none⟩)] with|some h'=>some (.tuple #[],h')|none=>none)
   else none
  |some (.row _ (.pointer (some ⟨c,0,none⟩)::_) 0 false)=>bif Nat.beq c b then some (.tuple #[],h) else none
  |_=>none
 |_=>none
/-- String. -/
def orc132(args:List Value)(h:Heap):Option (Value×Heap):=
 match args with
 |[.pointer (some ⟨b,0,none⟩)]=>match h.get b with
  |some (.row _ [_,.slice none 0 0] 0 false)=>some (.string ⟨#[]⟩,h)
  |some (.row _ [_,.slice (some ⟨g,0,none⟩) n c] 0 false)=>match h.get g with
   |some (.row 5 cs es false)=>bif Nat.blt 0 n && Nat.ble n c && Nat.beq (cs.take n).length n && Nat.ble n 140737488355328 then
     (match bytes8 (cs.take n) with|some l=>some (.string ⟨⟨l⟩⟩,h.put g (.row 5 cs es true))|none=>none)
    else none
   |_=>none
  |_=>none
 |_=>none
theorem LRel.cell{μ:Loc}{l:List Value}{arr:Array Value}{o n:Nat}(r:LRel μ l ((arr.toList.drop o).take n)){i:Nat}{x:Value}(hx:l[i]? =some x):∃ x',arr[o+i]? =some x'∧VRel μ x x':=by
 obtain⟨x',h1,h2⟩:=r.get hx
 rw[List.getElem?_take] at h1
 split at h1
 ·rw[List.getElem?_drop] at h1
  exact⟨x',by simpa using h1,h2⟩
 ·simp at h1
noncomputable def liesB(e:TypeId):Bool:=liesAt Tryz.prog Tryz.prog.depth e (2 / Tryz.prog.cellsOf e) 0 226 1
theorem lies226:liesB 226=true:=by kernel_rfl
theorem lies228:liesB 228=true:=by kernel_rfl
theorem lies_of{e:TypeId}(h:liesB e=true):liesAt Tryz.prog Tryz.prog.depth e (2 / Tryz.prog.cellsOf e) 0 226 1=true:=h
theorem orc190_ok{args:List Value}{h h':Heap}{v:Value}(e:orc190 args h=some (v,h')):Keep h h'∧∀ (μ:Loc) (w:World) (args':List Value),Rep μ h w→LRel μ args args'→
  Calls Tryz.prog 190 ⟨args'⟩ w fun e u=>∃ ν v',e= .returned v'∧Go1 μ h w ν h' u∧VRel ν v v':=by
 unfold orc190 at e
 split at e
 ·rename_i b
  split at e
  ·rename_i el x hg
   cases hel:(Nat.beq el 226 || Nat.beq el 228) with
   |false=>rw[hel] at e;simp at e
   |true=>
    rw[hel] at e
    simp only[cond_true] at e
    split at e
    ·rename_i h2 hst
     simp only[Option.some.injEq,Prod.mk.injEq] at e
     obtain⟨rfl,rfl⟩:=e
     refine⟨storeC_keep hst,fun μ w args' R hl=>?_⟩
     obtain⟨a',rfl,ra⟩:=hl.one
     cases ra with
     |ptr _ _ p hp=>
      obtain⟨p',hp',ho⟩:=R.live _ _ hg
      rw[hp] at hp'
      simp only[Option.some.injEq] at hp';subst hp'
      obtain⟨⟨old,hold⟩,hfr⟩:=live_cell R hg (k:=0) (by simp) hp
      obtain⟨arr,fr,h1,h2',h3,h4,h5,h6,h7⟩:=ho
      have hpo:=h5.2 rfl
      have hex:=h5.1 rfl
      have hsz:arr.size=2:=by rw[h4,hpo,hex,h2'];rfl
      obtain⟨y,hy,ry⟩:=h6.cell (i:=0) rfl
      cases ry
      have c0:w.cell? ⟨p.pb,p.po+0,none⟩=some (.pointer none):=by
       simp only[World.cell?,h1]
       simpa using hy
      have hsh:w.shape? p.pb=some (el,2):=by simp[World.shape?,h1,hsz]
      have he:liesAt Tryz.prog Tryz.prog.depth el (2 / Tryz.prog.cellsOf el) 0 226 1=true:=by
       rw[Bool.or_eq_true] at hel
       rcases hel with a|a
       ·have:=Nat.eq_of_beq_eq_true a;rw[this];exact lies_of lies226
       ·have:=Nat.eq_of_beq_eq_true a;rw[this];exact lies_of lies228
      have f0:=hfr rfl
      rw[hpo] at c0 f0
      rw[hpo]
      refine(Bld.cc_fresh p.pb el w c0 hsh he f0).mono ?_
      rintro ev u ⟨rfl,rfl⟩
      obtain⟨u,hu,G2⟩:=storeC_ok (P:=Tryz.prog) hp (o:=0) [.pointer (some ⟨b,0,none⟩)] [.pointer (some ⟨p.pb,p.po+0,none⟩)] 0 h h2 w R
       ⟨rfl,fun i x x' h1 h2=>by
        match i with
        |0=>
         simp only[List.getElem?_cons_zero,Option.some.injEq] at h1 h2;subst h1;subst h2
         exact .ptr _ _ _ hp
        |i+1=>simp at h1⟩ hst
      have hu2:u=w.setCell ⟨p.pb,0,none⟩ (.pointer (some ⟨p.pb,0,none⟩)):=by
       simp only[storeCells,Sem.run_bind,Addr.add,Nat.add_zero,hpo] at hu
       rw[run_store _ _ _ _ _ rfl] at hu
       simp only[if_true,c0,f0,Bool.false_eq_true,if_false,Result.andThen_ok,Sem.run_pure] at hu
       simpa using hu.symm
      subst hu2
      exact⟨μ,_,rfl,G2,LRel.tuple.2 .nil⟩
    ·simp at e
  ·rename_i el c cs hg
   cases hcb:Nat.beq c b with
   |false=>rw[hcb] at e;simp at e
   |true=>
    rw[hcb] at e
    simp only[cond_true,Option.some.injEq,Prod.mk.injEq] at e
    obtain⟨rfl,rfl⟩:=e
    have:=Nat.eq_of_beq_eq_true hcb;subst this
    refine⟨Keep.refl _,fun μ w args' R hl=>?_⟩
    obtain⟨a',rfl,ra⟩:=hl.one
    cases ra with
    |ptr _ _ p hp=>
     obtain⟨p',hp',ho⟩:=R.live _ _ hg
     rw[hp] at hp'
     simp only[Option.some.injEq] at hp';subst hp'
     obtain⟨arr,fr,h1,h2',h3,h4,h5,h6,h7⟩:=ho
     have hpo:=h5.2 rfl
     obtain⟨y,hy,ry⟩:=h6.cell (i:=0) rfl
     cases ry with
     |ptr _ _ q hq=>
      rw[hp] at hq
      simp only[Option.some.injEq] at hq;subst hq
      have c0:w.cell? ⟨p.pb,p.po+0,none⟩=some (.pointer (some ⟨p.pb,p.po+0,none⟩)):=by
       simp only[World.cell?,h1]
       simpa using hy
      refine(Bld.cc_used ⟨p.pb,p.po+0,none⟩ w rfl c0).mono ?_
      rintro ev u ⟨rfl,rfl⟩
      exact⟨μ,_,rfl,Go1.refl R,LRel.tuple.2 .nil⟩
  ·simp at e
 ·simp at e
theorem orc132_ok{args:List Value}{h h':Heap}{v:Value}(e:orc132 args h=some (v,h')):Keep h h'∧∀ (μ:Loc) (w:World) (args':List Value),Rep μ h w→LRel μ args args'→
  Calls Tryz.prog 132 ⟨args'⟩ w fun e u=>∃ ν v',e= .returned v'∧Go1 μ h w ν h' u∧VRel ν v v':=by
 unfold orc132 at e
 split at e
 ·rename_i b
  split at e
  ·rename_i el x hg
   simp only[Option.some.injEq,Prod.mk.injEq] at e
   obtain⟨rfl,rfl⟩:=e
   refine⟨Keep.refl _,fun μ w args' R hl=>?_⟩
   obtain⟨a',rfl,ra⟩:=hl.one
   cases ra with
   |ptr _ _ p hp=>
    obtain⟨p',hp',ho⟩:=R.live _ _ hg
    rw[hp] at hp'
    simp only[Option.some.injEq] at hp';subst hp'
    obtain⟨arr,fr,h1,h2',h3,h4,h5,h6,h7⟩:=ho
    have hpo:=h5.2 rfl
    have hex:=h5.1 rfl
    have hsz:arr.size=2:=by rw[h4,hpo,hex,h2'];rfl
    obtain⟨y,hy,ry⟩:=h6.cell (i:=1) rfl
    cases ry
    have harr:arr= #[arr[0],.slice none 0 0]:=by
     apply Array.ext
     ·simp[hsz]
     ·intro i hi hi'
      match i,hi with
      |0,_=>rfl
      |1,hi=>
       rw[hpo,Nat.zero_add,Array.getElem?_eq_getElem hi] at hy
       simpa using hy
      |i+2,hi=>omega
    rw[harr] at h1
    rw[hpo]
    refine(Bld.str_nil p.pb el arr[0] fr w h1).mono ?_
    rintro ev u ⟨rfl,rfl⟩
    exact⟨μ,_,rfl,go_below R (Below.drew (Below.refl _ _)),.str _⟩
  ·rename_i el x g n c hg
   split at e
   ·rename_i cs es hgg
    cases hc:(Nat.blt 0 n && Nat.ble n c && Nat.beq (cs.take n).length n && Nat.ble n 140737488355328) with
    |false=>rw[hc] at e;simp at e
    |true=>
     rw[hc] at e
     simp only[cond_true] at e
     split at e
     ·rename_i l hl8
      simp only[Option.some.injEq,Prod.mk.injEq] at e
      obtain⟨rfl,rfl⟩:=e
      refine⟨Keep.put _ _ _ hgg,fun μ w args' R hl=>?_⟩
      simp only[Bool.and_eq_true,Nat.blt_eq,Nat.ble_eq] at hc
      obtain⟨⟨⟨hn0,hnc⟩,hbl⟩,hn⟩:=hc
      have hbl:=Nat.eq_of_beq_eq_true hbl
      have hmap:=bytes8_at _ _ hl8
      have hll:l.length=n:=by
       have:=congrArg List.length hmap
       rw[hbl] at this;simpa using this.symm
      subst hll
      obtain⟨a',rfl,ra⟩:=hl.one
      cases ra with
      |ptr _ _ p hp=>
       obtain⟨p',hp',ho⟩:=R.live _ _ hg
       rw[hp] at hp'
       simp only[Option.some.injEq] at hp';subst hp'
       obtain⟨arr,fr,h1,h2',h3,h4,h5,h6,h7⟩:=ho
       have hpo:=h5.2 rfl
       have hex:=h5.1 rfl
       have hsz:arr.size=2:=by rw[h4,hpo,hex,h2'];rfl
       obtain⟨y,hy,ry⟩:=h6.cell (i:=1) rfl
       cases ry with
       |slice _ _ _ _ c' q hq hcap=>
        obtain⟨q',hq',hoq⟩:=R.live _ _ hgg
        rw[hq] at hq'
        simp only[Option.some.injEq] at hq';subst hq'
        obtain⟨arr2,fr2,g1,g2,g3,g4,g5,g6,g7⟩:=hoq
        have hqo:=g5.2 rfl
        have hcc:l.length≤c':=by
         rcases hcap with h|⟨_,_,h,_⟩
         ·omega
         ·omega
        have hcl:l.length≤cs.length:=by
         rw[List.length_take] at hbl;omega
        have harr:arr= #[arr[0],.slice (some ⟨q.pb,0,none⟩) l.length c']:=by
         apply Array.ext
         ·simp[hsz]
         ·intro i hi hi'
          match i,hi with
          |0,_=>rfl
          |1,hi=>
           rw[hpo,Nat.zero_add,Array.getElem?_eq_getElem hi,hqo] at hy
           simpa using hy
          |i+2,hi=>omega
        rw[harr] at h1
        have hcells:∀ (j:Nat) x,l[j]? =some x→arr2[j]? =some (.int .u8 x.toNat):=by
         intro j x hx
         have hj:j < l.length:=(List.getElem?_eq_some_iff.1 hx).1
         have:cs[j]? =some (.int .u8 (x.toNat:Int)):=by
          have h8:(cs.take l.length)[j]? =some (.int .u8 (x.toNat:Int)):=by rw[hmap];simp[hx]
          rw[List.getElem?_take,if_pos hj] at h8
          exact h8
         obtain⟨z,hz,rz⟩:=g6.cell this
         cases rz
         rw[hqo,Nat.zero_add] at hz
         exact hz
        rw[hpo]
        refine(Bld.str_some p.pb q.pb c' el l arr[0] arr2 fr2 fr w h1 g1 (fun h=>by subst h;simp at hn0) hcc (by rw[g4,g2];omega) hn hcells).mono ?_
        rintro ev u ⟨rfl,rfl⟩
        refine⟨μ,_,rfl,?_,.str _⟩
        have hn0':¬ l.length=0:=by omega
        refine go_put R hgg hq ?_ ?_ ?_ ?_ ?_ ?_
        ·unfold World.freeze;rw[if_neg hn0'];simp only[Array.size_modify];rfl
        ·intro k hk
         unfold World.freeze;rw[if_neg hn0']
         simp only[Array.getElem?_modify]
         rw[if_neg (fun e=>hk e.symm)]
         rfl
        ·unfold World.freeze;rw[if_neg hn0'];rfl
        ·unfold World.freeze;rw[if_neg hn0'];rfl
        ·unfold World.freeze;rw[if_neg hn0'];rfl
        ·refine⟨arr2,if fr2.1==fr2.2 then(0,0+l.length) else(min fr2.1 0,max fr2.2 (0+l.length)),?_,g2,g3,g4,⟨g5.1,fun h=>by simp at h⟩,g6,⟨fun h=>by simp at h,fun _ h5=>absurd rfl h5⟩⟩
         unfold World.freeze
         rw[if_neg hn0']
         simp only[Array.getElem?_modify,if_true]
         have:w.drew.heap[q.pb]? =some (.cells arr2 5 fr2):=g1
         rw[this]
         rfl
     ·simp at e
   ·simp at e
  ·simp at e
 ·simp at e
end Go.PanE
namespace Go.PanE
open Go.Proofs
def orcT(f:FuncId):Option (List Value→Heap→Option (Value×Heap)):=
 bif Nat.beq f 27 then some orc27 else bif Nat.beq f 33 then some orc33 else bif Nat.beq f 43 then some orc43 else bif Nat.beq f 70 then some orc70 else
 bif Nat.beq f 75 then some orc75 else bif Nat.beq f 106 then some orc106 else bif Nat.beq f 132 then some orc132 else bif Nat.beq f 190 then some orc190 else none
theorem cond_beq{α:Type}{f k:Nat}{a b c:α}(h:(bif Nat.beq f k then a else b)=c):(f=k∧a=c)∨b=c:=by
 cases e:Nat.beq f k with
 |true=>rw[e] at h;exact .inl ⟨Nat.eq_of_beq_eq_true e,h⟩
 |false=>rw[e] at h;exact .inr h
theorem orcT_ok:OrcOK Tryz.prog orcT:=by
 intro f g hg args h v h' e
 unfold orcT at hg
 rcases cond_beq hg with⟨rfl,h1⟩|hg
 ·simp only[Option.some.injEq] at h1;subst h1;exact orc27_ok e
 rcases cond_beq hg with⟨rfl,h1⟩|hg
 ·simp only[Option.some.injEq] at h1;subst h1;exact orc33_ok e
 rcases cond_beq hg with⟨rfl,h1⟩|hg
 ·simp only[Option.some.injEq] at h1;subst h1;exact orc43_ok e
 rcases cond_beq hg with⟨rfl,h1⟩|hg
 ·simp only[Option.some.injEq] at h1;subst h1;exact orc70_ok e
 rcases cond_beq hg with⟨rfl,h1⟩|hg
 ·simp only[Option.some.injEq] at h1;subst h1;exact orc75_ok e
 rcases cond_beq hg with⟨rfl,h1⟩|hg
 ·simp only[Option.some.injEq] at h1;subst h1;exact orc106_ok e
 rcases cond_beq hg with⟨rfl,h1⟩|hg
 ·simp only[Option.some.injEq] at h1;subst h1;exact orc132_ok e
 rcases cond_beq hg with⟨rfl,h1⟩|hg
 ·simp only[Option.some.injEq] at h1;subst h1;exact orc190_ok e
 simp at hg
theorem mixedT:Tryz.prog.follows .mixedOrders=true:=by kernel_rfl
/-- The machine's calls are the program's. -/
theorem callsT(L n:Nat):CallOK Tryz.prog (runA En orcT (drawn En) L n)∧CallKeep (runA En orcT (drawn En) L n):=
 run_ok En_ok (drawn_ok En_ok mixedT) (drawn_keep En) orcT_ok L n
end Go.PanE
namespace Go.PanE
/-- What stands ahead of an operation, by the masks of those ahead. -/
def ancL(ms:List Nat)(es:List Edge):Nat:=
 es.foldl (fun s e=>if Region.binds .any e then s ||| 2 ^ e.on ||| (match ms[e.on]? with|some m=>m|none=>0) else s) 0
/-- The masks of a text. -/
def masksL:List Nat→List Oper→List Nat
 |_,[]=>[]
 |ms,o::l=>ancL ms o.after.toList::masksL (ms++[ancL ms o.after.toList]) l
def masks(ops:List Oper):List Nat:=masksL [] ops
/-- The records, as far as the text tells them. -/
def statR(ops:List Oper)(ms:List Nat):List Rec:=(ops.zip ms).map fun p=>⟨p.1,p.2,false,0,undef,0,.map [],.nil⟩
theorem foldl_eq{α β:Type}{f g:β→α→β}(h:∀ b a,f b a=g b a):∀ (l:List α) (b:β),l.foldl f b=l.foldl g b:=by
 intro l
 induction l with
 |nil=>intro b;rfl
 |cons a l ih=>intro b;simp only[List.foldl_cons,h,ih]
theorem ancOf_ancL(recs:List Rec)(es:List Edge):ancOf recs es=ancL (recs.map (·.anc)) es:=by
 unfold ancOf ancL
 refine foldl_eq (fun s e=>?_) es 0
 rw[List.getElem?_map]
 cases recs[e.on]? <;>rfl
theorem orderOK_congr(ops:List Oper){recs recs':List Rec}(h:recs.map (fun r=>(r.o,r.anc))=recs'.map (fun r=>(r.o,r.anc))):orderOK ops recs=orderOK ops recs':=by
 have key:∀ (q:(Oper×Nat)×Nat→Bool) (l l':List Rec),l.map (fun r=>(r.o,r.anc))=l'.map (fun r=>(r.o,r.anc))→∀ k,((l.zipIdx k).all fun p=>q ((p.1.o,p.1.anc),p.2))=((l'.zipIdx k).all fun p=>q ((p.1.o,p.1.anc),p.2)):=by
  intro q l
  induction l with
  |nil=>
   intro l' e k
   cases l' with
   |nil=>rfl
   |cons _ _=>simp at e
  |cons r l ih=>
   intro l' e k
   cases l' with
   |nil=>simp at e
   |cons r' l'=>
    simp only[List.map_cons,List.cons.injEq] at e
    simp only[List.zipIdx_cons,List.all_cons,ih l' e.2 (k+1)]
    congr 1
    show q ((r.o,r.anc),k)=q ((r'.o,r'.anc),k)
    rw[e.1]
 unfold orderOK
 simp only
 have inner:∀ (r:Oper×Nat) (i:Nat),(recs.zipIdx.all fun p=>Nat.beq i p.2 || match p.1.o.dst with
   |none=>true
   |some d=>r.1.dst !=some d && (!(looks ops r.1).contains d || (Nat.blt p.2 i && bitB r.2 p.2) || (Nat.blt i p.2 && bitB p.1.anc i)))=
   (recs'.zipIdx.all fun p=>Nat.beq i p.2 || match p.1.o.dst with
   |none=>true
   |some d=>r.1.dst !=some d && (!(looks ops r.1).contains d || (Nat.blt p.2 i && bitB r.2 p.2) || (Nat.blt i p.2 && bitB p.1.anc i))):=by
  intro r i
  exact key (fun p=>Nat.beq i p.2 || match p.1.1.dst with
   |none=>true
   |some d=>r.1.dst !=some d && (!(looks ops r.1).contains d || (Nat.blt p.2 i && bitB r.2 p.2) || (Nat.blt i p.2 && bitB p.1.2 i))) recs recs' h 0
 have outer:=key (fun p=>(p.1.1.after.toList.all fun e=>!Region.binds .any e || Nat.blt e.on p.2) &&
   (recs'.zipIdx.all fun q=>Nat.beq p.2 q.2 || match q.1.o.dst with
   |none=>true
   |some d=>p.1.1.dst !=some d && (!(looks ops p.1.1).contains d || (Nat.blt q.2 p.2 && bitB p.1.2 q.2) || (Nat.blt p.2 q.2 && bitB q.1.anc p.2)))) recs recs' h 0
 refine Eq.trans ?_ outer
 congr 1
 funext p
 obtain⟨r,i⟩:=p
 exact congrArg (fun b=>(r.o.after.toList.all fun e=>!Region.binds .any e || Nat.blt e.on i) && b) (inner (r.o,r.anc) i)
section
variable (env:Env) (call:FuncId→List Value→Heap→Option (Value×Heap)) (nt:Nat) (ops:List Oper)
/-- The objects of a mask are born, if there may be any. -/
def bearF(some_:Bool)(mask born:Nat)(recs:List Rec)(h:Heap):Heap:=bif some_ then bear mask born recs 0 h else h
def walk1F(sm:Bool)(k:Nat)(o:Oper)(anc:Nat)(d:DS):Option DS:=
 let kd:=kindOf env o.op
 if wantedA ops d.tm o then
  match kd with
  |0=>match opQ env (bearF sm anc d.born d.recs d.cur) d.tm o.op with
   |some v=>match putD nt o.dst v d.tm with
    |some tm=>some {d with recs:=d.recs++[⟨o,anc,true,0,v,0,.map [],d.tm⟩],tm:=tm}
    |none=>none
   |none=>none
  |1=>match opA env d.tm o.op with
   |some (mk,obj)=>match putD nt o.dst (mk d.na) d.tm with
    |some tm=>some {d with recs:=d.recs++[⟨o,anc,true,1,mk d.na,d.na,obj,d.tm⟩],tm:=tm,na:=d.na+1}
    |none=>none
   |none=>none
  |_=>
   let pre:=bearF sm anc d.born d.recs d.cur
   match opE env call pre d.tm o.op with
   |some (v,post)=>match putD nt o.dst v d.tm with
    |some tm=>some {recs:=d.recs++[⟨o,anc,true,2,v,0,.map [],d.tm⟩],tm:=tm,cur:=post,born:=bornOf anc d.born,traj:=d.traj++[⟨k,pre,post,bornOf anc d.born⟩],na:=d.na}
    |none=>none
   |none=>none
 else match putD nt o.dst undef d.tm with
  |some tm=>some {d with recs:=d.recs++[⟨o,anc,false,kd,undef,0,.map [],d.tm⟩],tm:=tm}
  |none=>none
def walkF(sm:Bool):List Oper→List Nat→Nat→DS→Option DS
 |o::l,m::ms,k,d=>match walk1F env call nt ops sm k o m d with
  |some d'=>walkF sm l ms (k+1) d'
  |none=>none
 |[],_,_,d=>some d
 |_::_,[],_,_=>none
theorem bear_noA(mask born:Nat):∀ (l:List Rec) (k:Nat) (h:Heap),(∀ r∈l,r.isA=false)→bear mask born l k h=h:=by
 intro l
 induction l with
 |nil=>intro k h _;rfl
 |cons r l ih=>
  intro k h hr
  simp only[bear,hr r (by simp),Bool.false_and,Bool.false_eq_true,if_false]
  exact ih (k+1) h (fun x hx=>hr x (by simp[hx]))
theorem bearF_eq{sm:Bool}{mask born:Nat}{recs:List Rec}{h:Heap}(hs:sm=false→∀ r∈recs,r.isA=false):bearF sm mask born recs h=bear mask born recs 0 h:=by
 cases sm with
 |true=>rfl
 |false=>exact(bear_noA mask born recs 0 h (hs rfl)).symm
theorem walk1F_eq{sm:Bool}{k:Nat}{o:Oper}{d:DS}(hs:sm=false→∀ r∈d.recs,r.isA=false):walk1F env call nt ops sm k o (ancOf d.recs o.after.toList) d=walk1 env call nt ops k o d:=by
 unfold walk1F walk1
 simp only[bearF_eq hs]
 rfl
/-- What a step adds. -/
theorem walk1_adds{k:Nat}{o:Oper}{d d':DS}(e:walk1 env call nt ops k o d=some d'):∃ r:Rec,d'.recs=d.recs++[r]∧r.o=o∧r.anc=ancOf d.recs o.after.toList∧r.kd=kindOf env o.op∨(∃ r:Rec,d'.recs=d.recs++[r]∧r.o=o∧r.anc=ancOf d.recs o.after.toList∧2≤r.kd):=by
 unfold walk1 at e
 simp only at e
 split at e
 ·split at e
  ·rename_i hk
   split at e
   ·split at e
    ·simp only[Option.some.injEq] at e;subst e
     exact⟨_,.inl ⟨rfl,rfl,rfl,hk.symm⟩⟩
    ·simp at e
   ·simp at e
  ·rename_i hk
   split at e
   ·split at e
    ·simp only[Option.some.injEq] at e;subst e
     exact⟨_,.inl ⟨rfl,rfl,rfl,hk.symm⟩⟩
    ·simp at e
   ·simp at e
  ·split at e
   ·split at e
    ·simp only[Option.some.injEq] at e;subst e
     exact⟨⟨o,0,false,0,undef,0,.map [],.nil⟩,.inr ⟨_,rfl,rfl,rfl,Nat.le_refl _⟩⟩
    ·simp at e
   ·simp at e
 ·split at e
  ·simp only[Option.some.injEq] at e;subst e
   exact⟨_,.inl ⟨rfl,rfl,rfl,rfl⟩⟩
  ·simp at e
theorem countA_cons(o:Oper)(l:List Oper):countA env (o::l)=0→kindOf env o.op≠1∧countA env l=0:=by
 intro h
 simp only[countA] at h
 by_cases e:kindOf env o.op=1
 ·rw[e] at h;simp at h
 ·exact⟨e,by omega⟩
theorem walkF_eq{sm:Bool}:∀ (l:List Oper) (k:Nat) (d:DS),(sm=false→countA env l=0∧∀ r∈d.recs,r.isA=false)→walkF env call nt ops sm l (masksL (d.recs.map (·.anc)) l) k d=walk env call nt ops l k d:=by
 intro l
 induction l with
 |nil=>intro k d _;simp only[walkF,walk]
 |cons o l ih=>
  intro k d hs
  simp only[masksL,walkF,walk]
  rw[← ancOf_ancL,walk1F_eq env call nt ops (fun h=>(hs h).2)]
  cases e:walk1 env call nt ops k o d with
  |none=>rfl
  |some d'=>
   simp only
   have hadd:∃ r:Rec,d'.recs=d.recs++[r]∧r.o=o∧r.anc=ancOf d.recs o.after.toList∧(r.kd=kindOf env o.op∨2≤r.kd):=by
    obtain⟨r,h|h⟩:=walk1_adds env call nt ops e
    ·exact⟨r,h.1,h.2.1,h.2.2.1,.inl h.2.2.2⟩
    ·obtain⟨r,h⟩:=h
     exact⟨r,h.1,h.2.1,h.2.2.1,.inr h.2.2.2⟩
   obtain⟨r,h1,_,h3,h4⟩:=hadd
   have hm:d.recs.map (·.anc)++[ancOf d.recs o.after.toList]=d'.recs.map (·.anc):=by rw[h1];simp[h3]
   rw[hm]
   refine ih (k+1) d' (fun h=>?_)
   obtain⟨c1,c2⟩:=hs h
   obtain⟨c3,c4⟩:=countA_cons env o l c1
   refine⟨c4,fun x hx=>?_⟩
   rw[h1] at hx
   rcases List.mem_append.1 hx with hx|hx
   ·exact c2 x hx
   ·simp only[List.mem_singleton] at hx;subst hx
    unfold Rec.isA
    have:Nat.beq x.kd 1=false:=by
     cases hb:Nat.beq x.kd 1 with
     |false=>rfl
     |true=>
      have:=Nat.eq_of_beq_eq_true hb
      rcases h4 with h4|h4
      ·exact absurd (h4.symm.trans this) c3
      ·omega
    rw[this];simp
theorem walk_stat:∀ (l:List Oper) (k:Nat) (d d':DS),walk env call nt ops l k d=some d'→
  d'.recs.map (fun r=>(r.o,r.anc))=d.recs.map (fun r=>(r.o,r.anc))++l.zip (masksL (d.recs.map (·.anc)) l):=by
 intro l
 induction l with
 |nil=>
  intro k d d' e
  simp only[walk,Option.some.injEq] at e;subst e
  simp
 |cons o l ih=>
  intro k d d' e
  simp only[walk] at e
  split at e
  ·rename_i d1 h1
   have hadd:∃ r:Rec,d1.recs=d.recs++[r]∧r.o=o∧r.anc=ancOf d.recs o.after.toList:=by
    obtain⟨r,h|h⟩:=walk1_adds env call nt ops h1
    ·exact⟨r,h.1,h.2.1,h.2.2.1⟩
    ·obtain⟨r,h⟩:=h
     exact⟨r,h.1,h.2.1,h.2.2.1⟩
   obtain⟨r,h1,h2,h3⟩:=hadd
   rw[ih (k+1) d1 d' e,h1]
   simp only[masksL,List.zip_cons_cons,List.map_append,List.map_cons,List.map_nil,List.append_assoc,List.singleton_append,h2,h3,ancOf_ancL]
  ·simp at e
theorem statR_map:∀ (l:List Oper) (ms:List Nat),(statR l ms).map (fun r=>(r.o,r.anc))=l.zip ms:=by
 intro l ms
 unfold statR
 rw[List.map_map]
 conv=>rhs;rw[← List.map_id (l.zip ms)]
 rfl
/-- An open region, faster. -/
noncomputable def drawF(s:St):Option St:=
 let n:=countA env ops
 let sm:=Nat.blt 0 n
 let h0:=bif sm then reserve n s.h else s.h
 match walkF env call nt ops sm ops (masks ops) 0 ⟨[],s.tm,h0,0,[],s.h.nx⟩ with
 |some d=>
  bif orderOK ops (statR ops (masks ops)) && chainOK d.recs d.traj && Nat.beq d.na (s.h.nx+n) then
   bif (d.recs.zipIdx.all fun(r,i)=>!r.want || !Nat.beq r.kd 0 || !usesHeap r.o.op || quietOK env d.recs r i [] d.traj h0 0) then
    some ⟨d.tm,bearF sm (2 ^ ops.length - 1) d.born d.recs d.cur⟩
   else
    @ite _ (quietAll env d.recs d.traj h0) (Classical.propDecidable _) (some ⟨d.tm,bear (2 ^ ops.length - 1) d.born d.recs 0 d.cur⟩) none
  else none
 |none=>none
theorem walk_noA:∀ (l:List Oper) (k:Nat) (d d':DS),walk env call nt ops l k d=some d'→countA env l=0→(∀ r∈d.recs,r.isA=false)→∀ r∈d'.recs,r.isA=false:=by
 intro l
 induction l with
 |nil=>
  intro k d d' e _ h
  simp only[walk,Option.some.injEq] at e;subst e;exact h
 |cons o l ih=>
  intro k d d' e hc h
  simp only[walk] at e
  split at e
  ·rename_i d1 h1
   obtain⟨c3,c4⟩:=countA_cons env o l hc
   refine ih (k+1) d1 d' e c4 (fun x hx=>?_)
   have hadd:∃ r:Rec,d1.recs=d.recs++[r]∧(r.kd=kindOf env o.op∨2≤r.kd):=by
    obtain⟨r,h|h⟩:=walk1_adds env call nt ops h1
    ·exact⟨r,h.1,.inl h.2.2.2⟩
    ·obtain⟨r,h⟩:=h
     exact⟨r,h.1,.inr h.2.2.2⟩
   obtain⟨r,h1,h4⟩:=hadd
   rw[h1] at hx
   rcases List.mem_append.1 hx with hx|hx
   ·exact h x hx
   ·simp only[List.mem_singleton] at hx;subst hx
    unfold Rec.isA
    have:Nat.beq x.kd 1=false:=by
     cases hb:Nat.beq x.kd 1 with
     |false=>rfl
     |true=>
      have:=Nat.eq_of_beq_eq_true hb
      rcases h4 with h4|h4
      ·exact absurd (h4.symm.trans this) c3
      ·omega
    rw[this];simp
  ·simp at e
theorem drawF_eq(s:St):drawF env call nt ops s=drawP env call nt ops s:=by
 unfold drawF drawP
 simp only
 have hh:(bif Nat.blt 0 (countA env ops) then reserve (countA env ops) s.h else s.h)=reserve (countA env ops) s.h:=by
  cases hb:Nat.blt 0 (countA env ops) with
  |true=>rfl
  |false=>
   have:countA env ops=0:=by
    have:¬ 0 < countA env ops:=by
     intro h
     rw[← Nat.blt_eq] at h
     rw[hb] at h;simp at h
    omega
   rw[this];rfl
 have hz:Nat.blt 0 (countA env ops)=false→countA env ops=0:=by
  intro hb
  have:¬ 0 < countA env ops:=by
   intro h
   rw[← Nat.blt_eq] at h
   rw[hb] at h;simp at h
  omega
 rw[hh]
 have hw:=walkF_eq env call nt ops (sm:=Nat.blt 0 (countA env ops)) ops 0 ⟨[],s.tm,reserve (countA env ops) s.h,0,[],s.h.nx⟩ (fun h=>⟨hz h,fun r hr=>by simp at hr⟩)
 unfold masks
 simp only[List.map_nil] at hw
 rw[hw]
 cases e:walk env call nt ops ops 0 ⟨[],s.tm,reserve (countA env ops) s.h,0,[],s.h.nx⟩ with
 |none=>rfl
 |some d=>
  simp only
  have h1:=walk_stat env call nt ops ops 0 _ d e
  simp only[List.map_nil,List.nil_append] at h1
  have h2:orderOK ops (statR ops (masksL [] ops))=orderOK ops d.recs:=orderOK_congr ops (by rw[statR_map,h1])
  have h3:bearF (Nat.blt 0 (countA env ops)) (2 ^ ops.length - 1) d.born d.recs d.cur=bear (2 ^ ops.length - 1) d.born d.recs 0 d.cur:=
   bearF_eq (fun h=>walk_noA env call nt ops ops 0 _ d e (hz h) (fun r hr=>by simp at hr))
  rw[h2,h3]
end
noncomputable def drawnF(env:Env):(FuncId→List Value→Heap→Option (Value×Heap))→Nat→List Oper→St→Option St:=fun call nt ops s=>drawF env call nt ops s
theorem drawnF_eq(env:Env):drawnF env=drawn env:=by
 funext call nt ops s
 exact drawF_eq env call nt ops s
end Go.PanE
namespace Go.PanE
open Go.Proofs
def pows:List Value:=(List.range 20).map fun i=>.int .u64 ((10 ^ i:Nat):Int)
/-- The memory at the start: the package variables that are read; three errors' objects that nobody looks into. -/
def h0(m:Int):Heap:=
 {t:=T.put (T.put (T.put (T.put (T.put (T.put .nil 0 (.row 129 [.iface 168 (.agg #[.pointer (some ⟨10,84,none⟩)])] 0 true)) 1 (.row 84 [.iface 309 (.pointer (some ⟨11,0,none⟩))] 0 true)) 2 (.row 3 [.int .i64 m] 0 true))
   3 (.row 268 pows 0 true)) 4 (.row 84 [.iface 309 (.pointer (some ⟨12,0,none⟩))] 0 true)) 5 (.row 84 [.iface 309 (.pointer (some ⟨13,0,none⟩))] 0 true),
  nx:=14,wm:=14}
/-- Sheet.Cells, at a sheet of two cells. -/
def orc18(args:List Value)(h:Heap):Option (Value×Heap):=
 match args with
 |[.pointer (some ⟨b,0,none⟩)]=>match h.get b with
  |some (.row _ [.map (some m)] 0 false)=>match h.get m with
   |some (.map [(k1,_),(k2,_)])=>bif keyT 29 k1 && keyT 29 k2 && (match keyV k1,keyV k2 with|some a,some b=>!decide (a=b)|_,_=>false) then
     some (.slice (some ⟨h.nx,0,none⟩) 2 2,reserve 1 h)
    else none
   |_=>none
  |_=>none
 |_=>none
def orcW(f:FuncId):Option (List Value→Heap→Option (Value×Heap)):=bif Nat.beq f 18 then some orc18 else orcT f
end Go.PanE
