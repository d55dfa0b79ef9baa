/-
 Part 17 of the proof of Rows.DumpLinesCardSaid. No conditions.
-/
import Derived.Test.YtihkphfmnnndfaaGreatDoorT01
import Derived.Test.YtihkphfmnnndfaaGreatDoorT15
import Derived.Test.YtihkphfmnnndfaaGreatDoorT16
import Derived.Laws.Externs
import Derived.Lib.Builder
import Derived.Lib.UnsafeStr
import Derived.Lib.Walk
import Derived.Shelf.RegionOpenPlain
import Derived.WalkKit
namespace Go.PanE
open Go.Proofs Go.RowKit
def zeY(cs:Array Value):Bool:=match cs.toList with|[.pointer (some ⟨10,84,none⟩)]=>true|_=>false
def zaL(args:Vs)(h:Heap):Option (Value×Heap):=
 match args with
 |[.nilIface,_]=>some (.bool false,h)
 |[.iface t (.pointer (some ⟨b,o,none⟩)),.iface tt (.pointer (some ⟨c,k,none⟩))]=>
  match h.get 0 with
  |some (.row _ [.iface 168 (.agg cs)] 0 _)=>
   bif zeY cs then
    bif (Nat.beq t 149 && Nat.beq tt 150) || (Nat.beq t 242 && Nat.beq tt 243) then
     match jd h ⟨c,k,none⟩ [.pointer (some ⟨b,o,none⟩)] with
     |some h'=>some (.bool true,h')
     |none=>none
    else bif Nat.beq t 309 && Nat.beq tt 150 then
     match h.get c with
     |some (.row _ l _ _)=>bif Nat.blt k l.length then some (.bool false,h) else none
     |_=>none
    else none
   else none
  |_=>none
 |_=>none
theorem zcl{μ:Loc}{h:Heap}{w:World}(R:Rep μ h w){el:TypeId}{cs:Array Value}{ro:Bool}(hg:h.get 0=some (.row el [.iface 168 (.agg cs)] 0 ro))(hc:zeY cs=true):
  w.cell? ⟨0,0,none⟩=some (.iface 168 (.agg #[.pointer (some ⟨10,84,none⟩)])):=by
 obtain⟨arr,fr,ha,hr⟩:=uR R (g:=0) (by decide) hg
 obtain⟨x,hx,rx⟩:=hr.one
 cases rx with
 |iface _ _ v' rv=>
  cases rv with
  |agg _ ys h1 h2=>
   unfold zeY at hc
   split at hc
   ·rename_i hl
    have hcs:cs= #[.pointer (some ⟨10,84,none⟩)]:=by
     apply Array.ext';simpa using hl
    subst hcs
    have hy:ys.size=1:=by rw[← h1];rfl
    have r0:=h2 0 _ ys[0] rfl (Array.getElem?_eq_getElem (by omega))
    have hy0:ys= #[ys[0]]:=by
     apply Array.ext
     ·simp[hy]
     ·intro i hi hi'
      have:i=0:=by omega
      subst this;rfl
    obtain⟨q,hq,q1,q2⟩:=R.glob 10 (by decide)
    generalize ys[0]=y at r0 hy0
    cases r0 with
    |ptr _ _ p hp=>
     rw[hq] at hp
     simp only[sJ] at hp;subst hp
     rw[q1,q2] at hy0
     simp only[World.cell?,ha,Option.isSome_none,Bool.false_eq_true,if_false]
     rw[← Array.getElem?_toList,hx,hy0];rfl
   ·simp at hc
theorem zce{μ:Loc}{h:Heap}{w:World}(R:Rep μ h w){c k:Nat}{el:TypeId}{l:Vs}{es:Nat}{ro:Bool}(hg:h.get c=some (.row el l es ro))(hk:k < l.length){p:Place}(hp:μ c=some p):
  (∃ old,w.cell? ⟨p.pb,p.po+k,none⟩=some old)∧(ro=false→w.frozen? ⟨p.pb,p.po+k,none⟩=false):=by
 obtain⟨q,hq,ho⟩:=R.live c _ hg
 rw[hp] at hq
 simp only[sJ] at hq;subst hq
 obtain⟨arr,fr,ha,hs,_,hz,_,_,hfr⟩:=ho
 have hlt:p.po+k < arr.size:=by omega
 refine⟨⟨arr[p.po+k],?_⟩,fun hro=>?_⟩
 ·simp only[World.cell?,ha,Option.isSome_none,Bool.false_eq_true,if_false]
  exact Array.getElem?_eq_getElem hlt
 ·have:=hfr.1 hro (p.po+k) (by omega)
  obtain⟨lo,hi⟩:=fr
  simp only[World.frozen?,ha]
  rw[Bool.and_eq_false_iff]
  simp only[decide_eq_false_iff_not]
  by_cases h1:lo≤p.po+k
  ·right
   intro h2
   exact this ⟨h1,h2,hlt⟩
  ·left;exact h1
def zkm(t tt:TypeId):Prop:=∀ (e a:Addr) (old:Value) (w:World),w.cell? ⟨0,0,none⟩=some (.iface 168 (.agg #[.pointer (some ⟨10,84,none⟩)]))→w.cell? a=some old→w.frozen? a=false→
 Calls Tryz.prog 33 #[.iface t (.pointer (some e)),.iface tt (.pointer (some a))] w fun ev w'=>ev= .returned (.bool true)∧∃ w1,Below w.heap.size w w1∧w'=w1.setCell a (.pointer (some e))
theorem zjS:zkm 149 150:=by
 intro e a old w hg h0 hf
 refine(AsSource.as_hit (.inl ⟨rfl,rfl⟩) e a old w hg h0 hf).mono ?_
 rintro ev u ⟨rfl,rfl⟩
 exact⟨rfl,_,(Joins.below_alloc3 w _ _ _).alloc (by simp;omega) _,rfl⟩
theorem zoo:zkm 242 243:=by
 intro e a old w hg h0 hf
 refine(AsSource.as_hit (.inr ⟨rfl,rfl⟩) e a old w hg h0 hf).mono ?_
 rintro ev u ⟨rfl,rfl⟩
 exact⟨rfl,_,(Joins.below_alloc3 w _ _ _).alloc (by simp;omega) _,rfl⟩
theorem zlP{t tt:TypeId}(H:zkm t tt){h h':Heap}{b o c k:Nat}{el:TypeId}{cs:Array Value}{ro:Bool}(hg:h.get 0=some (.row el [.iface 168 (.agg cs)] 0 ro))(hc:zeY cs=true)
  (e:jd h ⟨c,k,none⟩ [.pointer (some ⟨b,o,none⟩)]=some h'):Keep h h'∧∀ (μ:Loc) (w:World) (args':Vs),Rep μ h w→zh μ [.iface t (.pointer (some ⟨b,o,none⟩)),.iface tt (.pointer (some ⟨c,k,none⟩))] args'→
  Calls Tryz.prog 33 ⟨args'⟩ w fun e u=>∃ ν v',e= .returned v'∧Go1 μ h w ν h' u∧VRel ν (.bool true) v':=by
 refine⟨vF e,fun μ w args' R hl=>?_⟩
 obtain⟨a',b',rfl,ra,rb⟩:=hl.two
 cases ra with
 |iface _ _ x' rx=>
  cases rb with
  |iface _ _ y' ry=>
   cases rx with
   |ptr _ _ p hp=>
    cases ry with
    |ptr _ _ q hq=>
     have hrow:∃ el2 l es,h.get c=some (.row el2 l es false)∧k < l.length:=by
      unfold jd at e
      split at e
      ·rename_i el2 l es hg2 _
       refine⟨el2,l,es,hg2,?_⟩
       simp only[uG,jh] at e
       by_cases hk:k < l.length
       ·exact hk
       ·rw[if_neg hk] at e;simp at e
      ·simp at e
     obtain⟨el2,l,es,hg2,hk⟩:=hrow
     obtain⟨⟨old,hold⟩,hfr⟩:=zce R hg2 hk hq
     refine(H ⟨p.pb,p.po+o,none⟩ ⟨q.pb,q.po+k,none⟩ old w (zcl R hg hc) hold (hfr rfl)).mono ?_
     rintro ev u ⟨rfl,w1,hB,rfl⟩
     have G:=go_below R hB
     have hlt:q.pb < w.heap.size:=R.bound _ _ hq
     have c1:w1.cell? ⟨q.pb,q.po+k,none⟩=some old:=by rw[hB.cell hlt];exact hold
     have f1:w1.frozen? ⟨q.pb,q.po+k,none⟩=false:=by rw[hB.frozen hlt];exact hfr rfl
     obtain⟨u,hu,G2⟩:=yo (P:=Tryz.prog) hq (o:=k) [.pointer (some ⟨b,o,none⟩)] [.pointer (some ⟨p.pb,p.po+o,none⟩)] 0 h h' w1 G.rep
      ⟨rfl,fun i x x' h1 h2=>by
       match i with
       |0=>
        simp only[List.getElem?_cons_zero,sJ] at h1 h2;subst h1;subst h2
        exact .ptr _ _ _ hp
       |i+1=>simp at h1⟩ e
     have hu2:u=w1.setCell ⟨q.pb,q.po+k,none⟩ (.pointer (some ⟨p.pb,p.po+o,none⟩)):=by
      simp only[storeCells,Sem.run_bind,Addr.add,Nat.add_zero] at hu
      rw[run_store _ _ _ _ _ rfl] at hu
      simp only[if_true,c1,f1,Bool.false_eq_true,if_false,Result.andThen_ok,Sem.run_pure] at hu
      simpa using hu.symm
     subst hu2
     exact⟨μ,_,rfl,G.trans G2,.bool _⟩
theorem znE{args:Vs}{h h':Heap}{v:Value}(e:zaL args h=some (v,h')):Keep h h'∧∀ (μ:Loc) (w:World) (args':Vs),Rep μ h w→zh μ args args'→
  Calls Tryz.prog 33 ⟨args'⟩ w fun e u=>∃ ν v',e= .returned v'∧Go1 μ h w ν h' u∧VRel ν v v':=by
 unfold zaL at e
 split at e
 ·rename_i x
  simp only[sJ,pJ] at e
  obtain⟨rfl,rfl⟩:=e
  refine⟨Keep.refl _,fun μ w args' R hl=>?_⟩
  obtain⟨a',b',rfl,ra,rb⟩:=hl.two
  cases ra
  refine(AsSource.as_nil b' w).mono ?_
  rintro e u ⟨rfl,rfl⟩
  exact⟨μ,_,rfl,Go1.refl R,.bool _⟩
 ·rename_i t b o tt c k
  split at e
  ·rename_i el cs ro hg
   cases hc:zeY cs with
   |false=>rw[hc] at e;simp at e
   |true=>
    rw[hc] at e
    simp only[cond_true] at e
    cases h1:((Nat.beq t 149 && Nat.beq tt 150) || (Nat.beq t 242 && Nat.beq tt 243)) with
    |true=>
     rw[h1] at e
     simp only[cond_true] at e
     split at e
     ·rename_i h2 hst
      simp only[sJ,pJ] at e
      obtain⟨rfl,rfl⟩:=e
      rw[Bool.or_eq_true,bA,bA] at h1
      rcases h1 with⟨a1,a2⟩|⟨a1,a2⟩
      ·have:=nB_ a1;subst this
       have:=nB_ a2;subst this
       exact zlP zjS hg hc hst
      ·have:=nB_ a1;subst this
       have:=nB_ a2;subst this
       exact zlP zoo hg hc hst
     ·simp at e
    |false=>
     rw[h1] at e
     simp only[cond_false] at e
     cases h2:(Nat.beq t 309 && Nat.beq tt 150) with
     |false=>rw[h2] at e;simp at e
     |true=>
      rw[h2] at e
      simp only[cond_true] at e
      split at e
      ·rename_i el2 l es ro2 hg2
       cases h3:Nat.blt k l.length with
       |false=>rw[h3] at e;simp at e
       |true=>
        rw[h3] at e
        simp only[cond_true,sJ,pJ] at e
        obtain⟨rfl,rfl⟩:=e
        rw[bA] at h2
        have:=nB_ h2.1;subst this
        have:=nB_ h2.2;subst this
        refine⟨Keep.refl _,fun μ w args' R hl=>?_⟩
        obtain⟨a',b',rfl,ra,rb⟩:=hl.two
        cases ra with
        |iface _ _ x' rx=>
         cases rb with
         |iface _ _ y' ry=>
          cases rx with
          |ptr _ _ p hp=>
           cases ry with
           |ptr _ _ q hq=>
            obtain⟨⟨old,hold⟩,_⟩:=zce R hg2 (by simpa using h3) hq
            refine(AsSource.as_miss ⟨p.pb,p.po+o,none⟩ ⟨q.pb,q.po+k,none⟩ old w (zcl R hg hc) hold).mono ?_
            rintro ev u ⟨rfl,hB⟩
            exact⟨μ,_,rfl,go_below R hB,.bool _⟩
      ·simp at e
  ·simp at e
 ·simp at e
end Go.PanE
namespace Go.Proofs.Bld
open Go Go.RowKit
set_option maxRecDepth 100000 in
set_option maxHeartbeats 1000000 in
theorem cc_used(a:Addr)(w:World)(ha:a.add 0=a)(h0:w.cell? a=some (.pointer (some a))):Calls Tryz.prog 190 #[.pointer (some a)] w fun e w'=>e= .returned (.tuple #[])∧w'=w:=by
 obtain⟨j,hj,_⟩:=Option.map_eq_some_iff.1 (show(Tryz.prog.info? 226).map (·.size)=some 2 by kernel_rfl)
 go_enter Tryz.func190,Tryz.ntmps190
 go_wp2
 rw[Lib.run_neq_ptr_same w _ Tryz.underlying224 hj]
 go_wp2
 go_end0
 exact⟨rfl,rfl⟩
set_option maxRecDepth 100000 in
set_option maxHeartbeats 1000000 in
theorem cc_fresh(b e:Nat)(w:World)(h0:w.cell? ⟨b,0,none⟩=some (.pointer none))(hsh:w.shape? b=some (e,2))(he:liesAt Tryz.prog Tryz.prog.depth e (2 / Tryz.prog.cellsOf e) 0 226 1=true)(hfz:w.frozen? ⟨b,0,none⟩=false):
  Calls Tryz.prog 190 #[.pointer (some ⟨b,0,none⟩)] w fun e w'=>e= .returned (.tuple #[])∧w'=w.setCell ⟨b,0,none⟩ (.pointer (some ⟨b,0,none⟩)):=by
 obtain⟨j,hj,hjs⟩:=Option.map_eq_some_iff.1 (show(Tryz.prog.info? 226).map (·.size)=some 2 by kernel_rfl)
 go_enter Tryz.func190,Tryz.ntmps190
 go_wp2
 rw[Lib.run_to_unsafe w ⟨b,0,none⟩ Tryz.underlying224 Tryz.underlying123 hj (by rw[hjs];decide) hsh (Nat.zero_lt_succ 1)]
 simp only[Result.andThen]
 rw[Oper.upon_value]
 go_wp2
 rw[@run_callFunc_extern Tryz.prog 215 _ Extern.AbiNoEscape.same Tryz.func215 (by kernel_rfl) (by kernel_rfl) (by kernel_rfl) (by kernel_rfl)]
 rw[Lib.run_noEscape]
 simp only[Result.andThen]
 rw[Oper.upon_value]
 go_wp2
 rw[Lib.run_from_unsafe w ⟨b,0,none⟩ Tryz.underlying123 Tryz.underlying224 hj hsh he]
 simp only[Result.andThen]
 rw[Oper.upon_value]
 go_wp2
 go_end0
 exact⟨rfl,rfl⟩
set_option maxHeartbeats 2000000 in
set_option maxRecDepth 100000 in
theorem str_some(b g cap T:Nat)(l:List UInt8)(p:Value)(cur:Array Value)(fr fr':Nat×Nat)(w:World)(hbk:w.heap[b]? =some (.cells #[p,.slice (some ⟨g,0,none⟩) l.length cap] T fr'))(hg:w.heap[g]? =some (.cells cur 5 fr))(h0:l≠[])(hnc:l.length≤cap)(hcs:l.length≤cur.size)(hcm:l.length≤140737488355328)
  (hb:∀ (j:Nat) x,l[j]? =some x→cur[j]? =some (.int .u8 x.toNat)):
  Calls Tryz.prog 132 #[.pointer (some ⟨b,0,none⟩)] w fun e w'=>e= .returned (.string ⟨l.toArray⟩)∧w'=w.drew.freeze ⟨g,0,none⟩ l.length:=by
 have hl0:l.length≠0:=by simpa using h0
 have c1:w.drew.cell? ⟨b,1,none⟩=some (.slice (some ⟨g,0,none⟩) l.length cap):=by
  have:w.drew.heap[b]? =some (.cells #[p,.slice (some ⟨g,0,none⟩) l.length cap] T fr'):=hbk
  simp[World.cell?,this]
 have hSD:(Builtin.unsafeSliceData_ #[108] 266 #[.slice (some ⟨g,0,none⟩) l.length cap]).run Tryz.prog w.drew= .ok (.pointer (some ⟨g,0,none⟩)) w.drew:=
  Lib.run_unsafeSliceData_row _ _ _ _ _ _ (by omega)
 have hUS:(Builtin.unsafeString_ #[266,3] 9 #[.pointer (some ⟨g,0,none⟩),.int .i64 l.length]).run Tryz.prog w.drew= .ok (.string ⟨l.toArray⟩) (w.drew.freeze ⟨g,0,none⟩ l.length):=by
  refine Lib.run_unsafeString_row w.drew 266 3 9 5 Tryz.underlying266 (by kernel_rfl) g cur.size (by have hg':w.drew.heap[g]? =some (.cells cur 5 fr):=hg;simp[World.shape?,hg']) l h0 (by omega) (by omega) ?_
  intro j x hx
  have hg':w.drew.heap[g]? =some (.cells cur 5 fr):=hg
  have hj:(⟨g,0,none⟩:Addr).add j=⟨g,j,none⟩:=by
   unfold Addr.add;split
   ·rename_i e;subst e;rfl
   ·simp
  rw[hj]
  simp[World.cell?,hg',hb j x hx]
 have mixed:Tryz.prog.follows .mixedOrders=true:=by kernel_rfl
 go_enter Tryz.func132,Tryz.ntmps132
 go_wp2
 go_region_o
 all_goals (go_wp2;go_ret;exact⟨rfl,rfl⟩)
set_option maxHeartbeats 2000000 in
set_option maxRecDepth 100000 in
theorem str_nil(b T:Nat)(p:Value)(fr':Nat×Nat)(w:World)(hbk:w.heap[b]? =some (.cells #[p,.slice none 0 0] T fr')):
  Calls Tryz.prog 132 #[.pointer (some ⟨b,0,none⟩)] w fun e w'=>e= .returned (.string ⟨#[]⟩)∧w'=w.drew:=by
 have hUS:(Builtin.unsafeString_ #[266,3] 9 #[.pointer none,.int .i64 0]).run Tryz.prog w.drew= .ok (.string .empty) w.drew:=Lib.run_unsafeString_none w.drew _ _ _ none
 have c1:w.drew.cell? ⟨b,1,none⟩=some (.slice none 0 0):=by
  have:w.drew.heap[b]? =some (.cells #[p,.slice none 0 0] T fr'):=hbk
  simp[World.cell?,this]
 have hSD:(Builtin.unsafeSliceData_ #[108] 266 #[.slice none 0 0]).run Tryz.prog w.drew= .ok (.pointer none) w.drew:=rfl
 have mixed:Tryz.prog.follows .mixedOrders=true:=by kernel_rfl
 go_enter Tryz.func132,Tryz.ntmps132
 go_wp2
 go_region_o
 all_goals (go_wp2;go_ret;exact⟨rfl,rfl⟩)
end Go.Proofs.Bld
namespace Go.PanE
open Go.Proofs Go.RowKit
def bytes8:Vs→Option (Bsy)
 |[]=>some []
 | .int .u8 n::l=>bif decide (0≤n) && decide (n < 256) then(match bytes8 l with|some r=>some (UInt8.ofNat n.toNat::r)|none=>none) else none
 |_=>none
theorem zkc:∀ l:Bsy,bytes8 (l.map fun x=>.int .u8 (x.toNat:Int))=some l:=by
 intro l
 induction l with
 |nil=>rfl
 |cons x l ih=>
  have h1:decide ((0:Int)≤(x.toNat:Int))=true:=by simp
  have h2:decide ((x.toNat:Int) < 256)=true:=by
   have:=x.toNat_lt
   simp only[decide_eq_true_eq];omega
  simp only[List.map_cons,bytes8,h1,h2,Bool.and_self,cond_true,ih]
  simp
theorem zmg:∀ (cs:Vs) (l:Bsy),bytes8 cs=some l→cs=l.map fun x=>.int .u8 (x.toNat:Int):=by
 intro cs
 induction cs with
 |nil=>intro l e;simp only[bytes8,sJ] at e;subst e;rfl
 |cons v cs ih=>
  intro l e
  unfold bytes8 at e
  split at e
  ·rename_i h;simp at h
  ·rename_i n cs' h
   simp only[List.cons.injEq] at h;obtain⟨rfl,rfl⟩:=h
   cases hb:(decide (0≤n) && decide (n < 256)) with
   |false=>rw[hb] at e;simp at e
   |true=>
    rw[hb] at e
    simp only[cond_true] at e
    split at e
    ·rename_i r hr
     simp only[sJ] at e;subst e
     rw[ih r hr]
     simp only[bA,decide_eq_true_eq] at hb
     simp only[List.map_cons,List.cons.injEq,Value.int.injEq,true_and,and_true]
     simp only[UInt8.toNat_ofNat']
     omega
    ·simp at e
  ·simp at e
def yu(args:Vs)(h:Heap):Option (Value×Heap):=
 match args with
 |[.pointer (some ⟨b,0,none⟩)]=>match h.get b with
  |some (.row el [.pointer none,_] 0 false)=>bif Nat.beq el 226 || Nat.beq el 228 then
    (match jd h ⟨b,0,none⟩ [.pointer (some ⟨b,0,none⟩)] with|some h'=>some (.tuple #[],h')|none=>none)
   else none
  |some (.row _ (.pointer (some ⟨c,0,none⟩)::_) 0 false)=>bif Nat.beq c b then some (.tuple #[],h) else none
  |_=>none
 |_=>none
def yv(args:Vs)(h:Heap):Option (Value×Heap):=
 match args with
 |[.pointer (some ⟨b,0,none⟩)]=>match h.get b with
  |some (.row _ [_,.slice none 0 0] 0 false)=>some (.string ⟨#[]⟩,h)
  |some (.row _ [_,.slice (some ⟨g,0,none⟩) n c] 0 false)=>match h.get g with
   |some (.row 5 cs es false)=>bif Nat.blt 0 n && Nat.ble n c && Nat.beq (cs.take n).length n && Nat.ble n 140737488355328 then
     (match bytes8 (cs.take n) with|some l=>some (.string ⟨⟨l⟩⟩,h.put g (.row 5 cs es true))|none=>none)
    else none
   |_=>none
  |_=>none
 |_=>none
theorem zh.cell{μ:Loc}{l:Vs}{arr:Array Value}{o n:Nat}(r:zh μ l ((arr.toList.drop o).take n)){i:Nat}{x:Value}(hx:l[i]? =some x):∃ x',arr[o+i]? =some x'∧VRel μ x x':=by
 obtain⟨x',h1,h2⟩:=r.get hx
 rw[List.getElem?_take] at h1
 split at h1
 ·rw[List.getElem?_drop] at h1
  exact⟨x',by simpa using h1,h2⟩
 ·simp at h1
noncomputable def zjQ(e:TypeId):Bool:=liesAt Tryz.prog Tryz.prog.depth e (2 / Tryz.prog.cellsOf e) 0 226 1
theorem zra:zjQ 226=true:=by kernel_rfl
theorem zq9:zjQ 228=true:=by kernel_rfl
theorem zh9{e:TypeId}(h:zjQ e=true):liesAt Tryz.prog Tryz.prog.depth e (2 / Tryz.prog.cellsOf e) 0 226 1=true:=h
theorem zlp{args:Vs}{h h':Heap}{v:Value}(e:yu args h=some (v,h')):Keep h h'∧∀ (μ:Loc) (w:World) (args':Vs),Rep μ h w→zh μ args args'→
  Calls Tryz.prog 190 ⟨args'⟩ w fun e u=>∃ ν v',e= .returned v'∧Go1 μ h w ν h' u∧VRel ν v v':=by
 unfold yu at e
 split at e
 ·rename_i b
  split at e
  ·rename_i el x hg
   cases hel:(Nat.beq el 226 || Nat.beq el 228) with
   |false=>rw[hel] at e;simp at e
   |true=>
    rw[hel] at e
    simp only[cond_true] at e
    split at e
    ·rename_i h2 hst
     simp only[sJ,pJ] at e
     obtain⟨rfl,rfl⟩:=e
     refine⟨vF hst,fun μ w args' R hl=>?_⟩
     obtain⟨a',rfl,ra⟩:=hl.one
     cases ra with
     |ptr _ _ p hp=>
      obtain⟨p',hp',ho⟩:=R.live _ _ hg
      rw[hp] at hp'
      simp only[sJ] at hp';subst hp'
      obtain⟨⟨old,hold⟩,hfr⟩:=zce R hg (k:=0) (by simp) hp
      obtain⟨arr,fr,h1,h2',h3,h4,h5,h6,h7⟩:=ho
      have hpo:=h5.2 rfl
      have hex:=h5.1 rfl
      have hsz:arr.size=2:=by rw[h4,hpo,hex,h2'];rfl
      obtain⟨y,hy,ry⟩:=h6.cell (i:=0) rfl
      cases ry
      have c0:w.cell? ⟨p.pb,p.po+0,none⟩=some (.pointer none):=by
       simp only[World.cell?,h1]
       simpa using hy
      have hsh:w.shape? p.pb=some (el,2):=by simp[World.shape?,h1,hsz]
      have he:liesAt Tryz.prog Tryz.prog.depth el (2 / Tryz.prog.cellsOf el) 0 226 1=true:=by
       rw[Bool.or_eq_true] at hel
       rcases hel with a|a
       ·have:=nB_ a;rw[this];exact zh9 zra
       ·have:=nB_ a;rw[this];exact zh9 zq9
      have f0:=hfr rfl
      rw[hpo] at c0 f0
      rw[hpo]
      refine(Bld.cc_fresh p.pb el w c0 hsh he f0).mono ?_
      rintro ev u ⟨rfl,rfl⟩
      obtain⟨u,hu,G2⟩:=yo (P:=Tryz.prog) hp (o:=0) [.pointer (some ⟨b,0,none⟩)] [.pointer (some ⟨p.pb,p.po+0,none⟩)] 0 h h2 w R
       ⟨rfl,fun i x x' h1 h2=>by
        match i with
        |0=>
         simp only[List.getElem?_cons_zero,sJ] at h1 h2;subst h1;subst h2
         exact .ptr _ _ _ hp
        |i+1=>simp at h1⟩ hst
      have hu2:u=w.setCell ⟨p.pb,0,none⟩ (.pointer (some ⟨p.pb,0,none⟩)):=by
       simp only[storeCells,Sem.run_bind,Addr.add,Nat.add_zero,hpo] at hu
       rw[run_store _ _ _ _ _ rfl] at hu
       simp only[if_true,c0,f0,Bool.false_eq_true,if_false,Result.andThen_ok,Sem.run_pure] at hu
       simpa using hu.symm
      subst hu2
      exact⟨μ,_,rfl,G2,zh.tuple.2 .nil⟩
    ·simp at e
  ·rename_i el c cs hg
   cases hcb:Nat.beq c b with
   |false=>rw[hcb] at e;simp at e
   |true=>
    rw[hcb] at e
    simp only[cond_true,sJ,pJ] at e
    obtain⟨rfl,rfl⟩:=e
    have:=nB_ hcb;subst this
    refine⟨Keep.refl _,fun μ w args' R hl=>?_⟩
    obtain⟨a',rfl,ra⟩:=hl.one
    cases ra with
    |ptr _ _ p hp=>
     obtain⟨p',hp',ho⟩:=R.live _ _ hg
     rw[hp] at hp'
     simp only[sJ] at hp';subst hp'
     obtain⟨arr,fr,h1,h2',h3,h4,h5,h6,h7⟩:=ho
     have hpo:=h5.2 rfl
     obtain⟨y,hy,ry⟩:=h6.cell (i:=0) rfl
     cases ry with
     |ptr _ _ q hq=>
      rw[hp] at hq
      simp only[sJ] at hq;subst hq
      have c0:w.cell? ⟨p.pb,p.po+0,none⟩=some (.pointer (some ⟨p.pb,p.po+0,none⟩)):=by
       simp only[World.cell?,h1]
       simpa using hy
      refine(Bld.cc_used ⟨p.pb,p.po+0,none⟩ w rfl c0).mono ?_
      rintro ev u ⟨rfl,rfl⟩
      exact⟨μ,_,rfl,Go1.refl R,zh.tuple.2 .nil⟩
  ·simp at e
 ·simp at e
theorem zlq{args:Vs}{h h':Heap}{v:Value}(e:yv args h=some (v,h')):Keep h h'∧∀ (μ:Loc) (w:World) (args':Vs),Rep μ h w→zh μ args args'→
  Calls Tryz.prog 132 ⟨args'⟩ w fun e u=>∃ ν v',e= .returned v'∧Go1 μ h w ν h' u∧VRel ν v v':=by
 unfold yv at e
 split at e
 ·rename_i b
  split at e
  ·rename_i el x hg
   simp only[sJ,pJ] at e
   obtain⟨rfl,rfl⟩:=e
   refine⟨Keep.refl _,fun μ w args' R hl=>?_⟩
   obtain⟨a',rfl,ra⟩:=hl.one
   cases ra with
   |ptr _ _ p hp=>
    obtain⟨p',hp',ho⟩:=R.live _ _ hg
    rw[hp] at hp'
    simp only[sJ] at hp';subst hp'
    obtain⟨arr,fr,h1,h2',h3,h4,h5,h6,h7⟩:=ho
    have hpo:=h5.2 rfl
    have hex:=h5.1 rfl
    have hsz:arr.size=2:=by rw[h4,hpo,hex,h2'];rfl
    obtain⟨y,hy,ry⟩:=h6.cell (i:=1) rfl
    cases ry
    have harr:arr= #[arr[0],.slice none 0 0]:=by
     apply Array.ext
     ·simp[hsz]
     ·intro i hi hi'
      match i,hi with
      |0,_=>rfl
      |1,hi=>
       rw[hpo,Nat.zero_add,Array.getElem?_eq_getElem hi] at hy
       simpa using hy
      |i+2,hi=>omega
    rw[harr] at h1
    rw[hpo]
    refine(Bld.str_nil p.pb el arr[0] fr w h1).mono ?_
    rintro ev u ⟨rfl,rfl⟩
    exact⟨μ,_,rfl,go_below R (Below.drew (Below.refl _ _)),.str _⟩
  ·rename_i el x g n c hg
   split at e
   ·rename_i cs es hgg
    cases hc:(Nat.blt 0 n && Nat.ble n c && Nat.beq (cs.take n).length n && Nat.ble n 140737488355328) with
    |false=>rw[hc] at e;simp at e
    |true=>
     rw[hc] at e
     simp only[cond_true] at e
     split at e
     ·rename_i l hl8
      simp only[sJ,pJ] at e
      obtain⟨rfl,rfl⟩:=e
      refine⟨Keep.put _ _ _ hgg,fun μ w args' R hl=>?_⟩
      simp only[bA,Nat.blt_eq,Nat.ble_eq] at hc
      obtain⟨⟨⟨hn0,hnc⟩,hbl⟩,hn⟩:=hc
      have hbl:=nB_ hbl
      have hmap:=zmg _ _ hl8
      have hll:l.length=n:=by
       have:=congrArg List.length hmap
       rw[hbl] at this;simpa using this.symm
      subst hll
      obtain⟨a',rfl,ra⟩:=hl.one
      cases ra with
      |ptr _ _ p hp=>
       obtain⟨p',hp',ho⟩:=R.live _ _ hg
       rw[hp] at hp'
       simp only[sJ] at hp';subst hp'
       obtain⟨arr,fr,h1,h2',h3,h4,h5,h6,h7⟩:=ho
       have hpo:=h5.2 rfl
       have hex:=h5.1 rfl
       have hsz:arr.size=2:=by rw[h4,hpo,hex,h2'];rfl
       obtain⟨y,hy,ry⟩:=h6.cell (i:=1) rfl
       cases ry with
       |slice _ _ _ _ c' q hq hcap=>
        obtain⟨q',hq',hoq⟩:=R.live _ _ hgg
        rw[hq] at hq'
        simp only[sJ] at hq';subst hq'
        obtain⟨arr2,fr2,g1,g2,g3,g4,g5,g6,g7⟩:=hoq
        have hqo:=g5.2 rfl
        have hcc:l.length≤c':=by
         rcases hcap with h|⟨_,_,h,_⟩
         ·omega
         ·omega
        have hcl:l.length≤cs.length:=by
         rw[List.length_take] at hbl;omega
        have harr:arr= #[arr[0],.slice (some ⟨q.pb,0,none⟩) l.length c']:=by
         apply Array.ext
         ·simp[hsz]
         ·intro i hi hi'
          match i,hi with
          |0,_=>rfl
          |1,hi=>
           rw[hpo,Nat.zero_add,Array.getElem?_eq_getElem hi,hqo] at hy
           simpa using hy
          |i+2,hi=>omega
        rw[harr] at h1
        have hcells:∀ (j:Nat) x,l[j]? =some x→arr2[j]? =some (.int .u8 x.toNat):=by
         intro j x hx
         have hj:j < l.length:=(List.getElem?_eq_some_iff.1 hx).1
         have:cs[j]? =some (.int .u8 (x.toNat:Int)):=by
          have h8:(cs.take l.length)[j]? =some (.int .u8 (x.toNat:Int)):=by rw[hmap];simp[hx]
          rw[List.getElem?_take,if_pos hj] at h8
          exact h8
         obtain⟨z,hz,rz⟩:=g6.cell this
         cases rz
         rw[hqo,Nat.zero_add] at hz
         exact hz
        rw[hpo]
        refine(Bld.str_some p.pb q.pb c' el l arr[0] arr2 fr2 fr w h1 g1 (fun h=>by subst h;simp at hn0) hcc (by rw[g4,g2];omega) hn hcells).mono ?_
        rintro ev u ⟨rfl,rfl⟩
        refine⟨μ,_,rfl,?_,.str _⟩
        have hn0':¬ l.length=0:=by omega
        refine zcj R hgg hq ?_ ?_ ?_ ?_ ?_ ?_
        ·unfold World.freeze;rw[if_neg hn0'];simp only[Array.size_modify];rfl
        ·intro k hk
         unfold World.freeze;rw[if_neg hn0']
         simp only[Array.getElem?_modify]
         rw[if_neg (fun e=>hk e.symm)]
         rfl
        ·unfold World.freeze;rw[if_neg hn0'];rfl
        ·unfold World.freeze;rw[if_neg hn0'];rfl
        ·unfold World.freeze;rw[if_neg hn0'];rfl
        ·refine⟨arr2,if fr2.1==fr2.2 then(0,0+l.length) else(min fr2.1 0,max fr2.2 (0+l.length)),?_,g2,g3,g4,⟨g5.1,fun h=>by simp at h⟩,g6,⟨fun h=>by simp at h,fun _ h5=>absurd rfl h5⟩⟩
         unfold World.freeze
         rw[if_neg hn0']
         simp only[Array.getElem?_modify,if_true]
         have:w.drew.heap[q.pb]? =some (.cells arr2 5 fr2):=g1
         rw[this]
         rfl
     ·simp at e
   ·simp at e
  ·simp at e
 ·simp at e
end Go.PanE
namespace Go.PanE
open Go.Proofs
def orcT(f:FuncId):Option (Vs→Heap→Option (Value×Heap)):=
 bif Nat.beq f 27 then some zjB else bif Nat.beq f 33 then some zaL else bif Nat.beq f 43 then some zdW else bif Nat.beq f 70 then some zdV else
 bif Nat.beq f 75 then some zcF else bif Nat.beq f 106 then some vH else bif Nat.beq f 132 then some yv else bif Nat.beq f 190 then some yu else bif Nat.beq f 216 then some zb4 else none
theorem cond_beq{α:Type}{f k:Nat}{a b c:α}(h:(bif Nat.beq f k then a else b)=c):(f=k∧a=c)∨b=c:=by
 cases e:Nat.beq f k with
 |true=>rw[e] at h;exact .inl ⟨nB_ e,h⟩
 |false=>rw[e] at h;exact .inr h
theorem zeL:zej Tryz.prog orcT:=by
 intro f g hg args h v h' e
 unfold orcT at hg
 rcases cond_beq hg with⟨rfl,h1⟩|hg
 ·simp only[sJ] at h1;subst h1;exact znF e
 rcases cond_beq hg with⟨rfl,h1⟩|hg
 ·simp only[sJ] at h1;subst h1;exact znE e
 rcases cond_beq hg with⟨rfl,h1⟩|hg
 ·simp only[sJ] at h1;subst h1;exact znD e
 rcases cond_beq hg with⟨rfl,h1⟩|hg
 ·simp only[sJ] at h1;subst h1;exact znC e
 rcases cond_beq hg with⟨rfl,h1⟩|hg
 ·simp only[sJ] at h1;subst h1;exact znB e
 rcases cond_beq hg with⟨rfl,h1⟩|hg
 ·simp only[sJ] at h1;subst h1;exact zlr e
 rcases cond_beq hg with⟨rfl,h1⟩|hg
 ·simp only[sJ] at h1;subst h1;exact zlq e
 rcases cond_beq hg with⟨rfl,h1⟩|hg
 ·simp only[sJ] at h1;subst h1;exact zlp e
 rcases cond_beq hg with⟨rfl,h1⟩|hg
 ·simp only[sJ] at h1;subst h1;exact zlo e
 simp at hg
theorem zgN:Tryz.prog.follows .mixedOrders=true:=by kernel_rfl
theorem zuR(L n:Nat):js Tryz.prog (zB En orcT (drawn En) L n)∧wa (zB En orcT (drawn En) L n):=
 zgt zcQ (zdt zcQ zgN) (zbF En) zeL L n
end Go.PanE
namespace Go.PanE
def zkj(ms:List Nat)(es:List Edge):Nat:=
 es.foldl (fun s e=>if Region.binds .any e then s ||| 2 ^ e.on ||| (match ms[e.on]? with|some m=>m|none=>0) else s) 0
def zd0:List Nat→List Oper→List Nat
 |_,[]=>[]
 |ms,o::l=>zkj ms o.after.toList::zd0 (ms++[zkj ms o.after.toList]) l
def zpT(ops:List Oper):List Nat:=zd0 [] ops
def statR(ops:List Oper)(ms:List Nat):List Rec:=(ops.zip ms).map fun p=>⟨p.1,p.2,false,0,undef,0,.map [],.nil⟩
theorem zoz{α β:Type}{f g:β→α→β}(h:∀ b a,f b a=g b a):∀ (l:List α) (b:β),l.foldl f b=l.foldl g b:=by
 intro l
 induction l with
 |nil=>intro b;rfl
 |cons a l ih=>intro b;simp only[List.foldl_cons,h,ih]
theorem zki(recs:List Rec)(es:List Edge):wI recs es=zkj (recs.map (·.anc)) es:=by
 unfold wI zkj
 refine zoz (fun s e=>?_) es 0
 rw[List.getElem?_map]
 cases recs[e.on]? <;>rfl
theorem zfm(ops:List Oper){recs recs':List Rec}(h:recs.map (fun r=>(r.o,r.anc))=recs'.map (fun r=>(r.o,r.anc))):jX ops recs=jX ops recs':=by
 have key:∀ (q:(Oper×Nat)×Nat→Bool) (l l':List Rec),l.map (fun r=>(r.o,r.anc))=l'.map (fun r=>(r.o,r.anc))→∀ k,((l.zipIdx k).all fun p=>q ((p.1.o,p.1.anc),p.2))=((l'.zipIdx k).all fun p=>q ((p.1.o,p.1.anc),p.2)):=by
  intro q l
  induction l with
  |nil=>
   intro l' e k
   cases l' with
   |nil=>rfl
   |cons _ _=>simp at e
  |cons r l ih=>
   intro l' e k
   cases l' with
   |nil=>simp at e
   |cons r' l'=>
    simp only[List.map_cons,List.cons.injEq] at e
    simp only[List.zipIdx_cons,List.all_cons,ih l' e.2 (k+1)]
    congr 1
    show q ((r.o,r.anc),k)=q ((r'.o,r'.anc),k)
    rw[e.1]
 unfold jX
 simp only
 have inner:∀ (r:Oper×Nat) (i:Nat),(recs.zipIdx.all fun p=>Nat.beq i p.2 || match p.1.o.dst with
   |none=>true
   |some d=>r.1.dst !=some d && (!(qq ops r.1).contains d || (Nat.blt p.2 i && jc r.2 p.2) || (Nat.blt i p.2 && jc p.1.anc i)))=
   (recs'.zipIdx.all fun p=>Nat.beq i p.2 || match p.1.o.dst with
   |none=>true
   |some d=>r.1.dst !=some d && (!(qq ops r.1).contains d || (Nat.blt p.2 i && jc r.2 p.2) || (Nat.blt i p.2 && jc p.1.anc i))):=by
  intro r i
  exact key (fun p=>Nat.beq i p.2 || match p.1.1.dst with
   |none=>true
   |some d=>r.1.dst !=some d && (!(qq ops r.1).contains d || (Nat.blt p.2 i && jc r.2 p.2) || (Nat.blt i p.2 && jc p.1.2 i))) recs recs' h 0
 have outer:=key (fun p=>(p.1.1.after.toList.all fun e=>!Region.binds .any e || Nat.blt e.on p.2) &&
   (recs'.zipIdx.all fun q=>Nat.beq p.2 q.2 || match q.1.o.dst with
   |none=>true
   |some d=>p.1.1.dst !=some d && (!(qq ops p.1.1).contains d || (Nat.blt q.2 p.2 && jc p.1.2 q.2) || (Nat.blt p.2 q.2 && jc q.1.anc p.2)))) recs recs' h 0
 refine Eq.trans ?_ outer
 congr 1
 funext p
 obtain⟨r,i⟩:=p
 exact congrArg (fun b=>(r.o.after.toList.all fun e=>!Region.binds .any e || Nat.blt e.on i) && b) (inner (r.o,r.anc) i)
section
variable (env:Env) (call:FuncId→Vs→Heap→Option (Value×Heap)) (nt:Nat) (ops:List Oper)
theorem ziY{k:Nat}{o:Oper}{d d':DS}(e:zae env call nt ops k o d=some d'):∃ r:Rec,d'.recs=d.recs++[r]∧r.o=o∧r.anc=wI d.recs o.after.toList:=by
 unfold zae at e
 simp only at e
 repeat' split at e
 all_goals first
  |(cases e;done)
  |(simp only[sJ] at e;subst e;exact⟨_,rfl,rfl,rfl⟩)
theorem zkw:∀ (l:List Oper) (k:Nat) (d d':DS),qL env call nt ops l k d=some d'→
  d'.recs.map (fun r=>(r.o,r.anc))=d.recs.map (fun r=>(r.o,r.anc))++l.zip (zd0 (d.recs.map (·.anc)) l):=by
 intro l
 induction l with
 |nil=>
  intro k d d' e
  simp only[qL,sJ] at e;subst e
  simp
 |cons o l ih=>
  intro k d d' e
  simp only[qL] at e
  split at e
  ·rename_i d1 h1
   obtain⟨r,h1,h2,h3⟩:=ziY env call nt ops h1
   rw[ih (k+1) d1 d' e,h1]
   simp only[zd0,List.zip_cons_cons,List.map_append,List.map_cons,List.map_nil,List.append_assoc,List.singleton_append,h2,h3,zki]
  ·simp at e
theorem zkJ:∀ (l:List Oper) (ms:List Nat),(statR l ms).map (fun r=>(r.o,r.anc))=l.zip ms:=by
 intro l ms
 unfold statR
 rw[List.map_map]
 conv=>rhs;rw[← List.map_id (l.zip ms)]
 rfl
noncomputable def zj5(s:St):Option St:=
 let n:=wt env ops
 let h0:=zd n s.h
 match qL env call nt ops ops 0 ⟨[],s.tm,h0,0,[],s.h.nx⟩ with
 |some d=>
  bif jX ops (statR ops (zpT ops)) && ju d.recs d.traj && Nat.beq d.na (s.h.nx+n) then
   bif (d.recs.zipIdx.all fun(r,i)=>!r.want || !Nat.beq r.kd 0 || !jI r.o.op || quietOK env d.recs r i [] d.traj h0 0) then
    some ⟨d.tm,wv (2 ^ ops.length - 1) d.born d.recs 0 d.cur⟩
   else
    @ite _ (zbk env d.recs d.traj h0) (Classical.propDecidable _) (some ⟨d.tm,wv (2 ^ ops.length - 1) d.born d.recs 0 d.cur⟩) none
  else none
 |none=>none
theorem drawF_eq(s:St):zj5 env call nt ops s=qB env call nt ops s:=by
 unfold zj5 qB
 simp only
 cases e:qL env call nt ops ops 0 ⟨[],s.tm,zd (wt env ops) s.h,0,[],s.h.nx⟩ with
 |none=>rfl
 |some d=>
  have h1:=zkw env call nt ops ops 0 _ d e
  simp only
  rw[zfm ops ((zkJ ops (zpT ops)).trans h1.symm)]
end
noncomputable def zhd(env:Env):(FuncId→Vs→Heap→Option (Value×Heap))→Nat→List Oper→St→Option St:=fun call nt ops s=>zj5 env call nt ops s
theorem zfi(env:Env):zhd env=drawn env:=by
 funext call nt ops s
 exact drawF_eq env call nt ops s
end Go.PanE
namespace Go.PanE
open Go.Proofs
def zeI:Vs:=(List.range 20).map fun i=>.int .u64 ((10 ^ i:Nat):Int)
def h0(m:Int):Heap:=
 {t:=T.put (T.put (T.put (T.put (T.put (T.put .nil 0 (.row 129 [.iface 168 (.agg #[.pointer (some ⟨10,84,none⟩)])] 0 true)) 1 (.row 84 [.iface 309 (.pointer (some ⟨11,0,none⟩))] 0 true)) 2 (.row 3 [.int .i64 m] 0 true))
   3 (.row 268 zeI 0 true)) 4 (.row 84 [.iface 309 (.pointer (some ⟨12,0,none⟩))] 0 true)) 5 (.row 84 [.iface 309 (.pointer (some ⟨13,0,none⟩))] 0 true),
  nx:=14,wm:=14}
def zjC(args:Vs)(h:Heap):Option (Value×Heap):=
 match args with
 |[.pointer (some ⟨b,0,none⟩)]=>match h.get b with
  |some (.row _ [.map (some m)] 0 false)=>match h.get m with
   |some (.map [(k1,_),(k2,_)])=>bif keyT 29 k1 && keyT 29 k2 && (match qA k1,qA k2 with|some a,some b=>!decide (a=b)|_,_=>false) then
     some (.slice (some ⟨h.nx,0,none⟩) 2 2,zd 1 h)
    else none
   |_=>none
  |_=>none
 |_=>none
def orcW(f:FuncId):Option (Vs→Heap→Option (Value×Heap)):=bif Nat.beq f 18 then some zjC else orcT f
end Go.PanE
namespace Go.PanE
open Go.Proofs Go.RowKit Go.Proofs.Cel
def hS(a b c d:Int):Heap:={t:=T.put .nil 14 (.row 29 [.int .i64 a,.int .i64 b,.int .i64 c,.int .i64 d] 2 false),nx:=15,wm:=15}
def ziZ(r:Option (Value×Heap)):Bool:=match r with|some (.tuple ⟨[]⟩,_)=>true|_=>false
noncomputable def zbh(a b c d:Int):Bool:=ziZ (zB En orcT (zhd En) 18446744073709551616 30 60 [.slice (some ⟨14,0,none⟩) 2 2,.func (.func 36) #[] #[]] (hS a b c d))
theorem zm7:zbh 1 1 1 1=true:=by kernel_rfl
theorem zm6:zbh 1 1 2 2=true:=by kernel_rfl
theorem zm5:zbh 2 2 1 1=true:=by kernel_rfl
theorem zm4:zbh 2 2 2 2=true:=by kernel_rfl
theorem zgY(a b c d:Int)(k:Nat):(hS a b c d).get k=if k=14 then some (.row 29 [.int .i64 a,.int .i64 b,.int .i64 c,.int .i64 d] 2 false) else none:=by
 rw[wo]
 show(if k < 15 then(T.put .nil 14 _).get k else none)=_
 rw[T.get_put]
 by_cases e:k=14
 ·subst e;simp
 ·rw[if_neg e,if_neg e];simp
theorem zi4{μ:Loc}{h:Heap}{w0 w:World}(R:Rep μ h w0)(B:Below w0.heap.size w0 w){a b c d:Int}(hs:zbh a b c d=true){g cap:Nat}{cur:Array Value}(hg:w0.heap.size≤g)(hgb:w.heap[g]? =some (.cells cur 29 (0,0)))(h2:2≤cap)(hcs:cur.size=cap * 2)
  (h4:cur.toList.take 4=[.int .i64 a,.int .i64 b,.int .i64 c,.int .i64 d]):
  Calls Tryz.prog 60 #[.slice (some ⟨g,0,none⟩) 2 cap,.func (.func 36) #[] #[]] w fun e u=>e= .returned (.tuple #[])∧Below w0.heap.size w u:=by
 let μS:Loc:=fun k=>if k < 11 then μ k else if k=14 then some ⟨g,0,4,(cap - 2) * 2,2,none⟩ else none
 have hglt:g < w.heap.size:=(Array.getElem?_eq_some_iff.1 hgb).1
 have m14:μS 14=some ⟨g,0,4,(cap - 2) * 2,2,none⟩:=rfl
 have RS:Rep μS (hS a b c d) w:=by
  refine⟨?_,?_,?_,?_,?_⟩
  ·intro k o hk
   rw[zgY] at hk
   split at hk
   ·rename_i e
    subst e
    simp only[sJ] at hk;subst hk
    refine⟨_,m14,cur,(0,0),hgb,rfl,rfl,?_,⟨fun h=>by simp at h,fun _=>rfl⟩,?_,⟨fun _ i _ hh=>by simp at hh,fun h=>by cases h⟩⟩
    ·show cur.size=0+4+(cap - 2) * 2
     omega
    ·show zh _ _ ((cur.toList.drop 0).take 4)
     rw[List.drop_zero,h4]
     exact .cons (.int _ _) (.cons (.int _ _) (.cons (.int _ _) (.cons (.int _ _) .nil)))
   ·simp at hk
  ·intro k k' o o' p p' hk hk' _ _ _ _
   rw[zgY] at hk hk'
   split at hk
   ·split at hk'
    ·rename_i e e';rw[e,e']
    ·simp at hk'
   ·simp at hk
  ·intro k hk
   have hk:15≤k:=hk
   show(if k < 11 then μ k else if k=14 then _ else none)=none
   rw[if_neg (by omega),if_neg (by omega)]
  ·intro k p hk
   have hk:(if k < 11 then μ k else if k=14 then some ⟨g,0,4,(cap - 2) * 2,2,none⟩ else none)=some p:=hk
   split at hk
   ·exact nU (R.bound k p hk) B.size
   ·split at hk
    ·simp only[sJ] at hk;subst hk;exact hglt
    ·simp at hk
  ·intro k hk
   have:k < 11:=hk
   obtain⟨p,hp,h1,h2⟩:=R.glob k hk
   exact⟨p,by show(if k < 11 then μ k else _)=_;rw[if_pos this];exact hp,h1,h2⟩
 unfold zbh at hs
 rw[zfi] at hs
 cases er:zB En orcT (drawn En) 18446744073709551616 30 60 [.slice (some ⟨14,0,none⟩) 2 2,.func (.func 36) #[] #[]] (hS a b c d) with
 |none=>rw[er] at hs;simp[ziZ] at hs
 |some r=>
  obtain⟨v,h'⟩:=r
  rw[er] at hs
  have hv:v= .tuple #[]:=by
   unfold ziZ at hs
   split at hs
   ·rename_i e
    simp only[sJ,pJ] at e
    exact e.1
   ·simp at hs
  subst hv
  have hc:=(zuR 18446744073709551616 30).1 60 _ _ _ _ er μS w [.slice (some ⟨g,0,none⟩) 2 cap,.func (.func 36) #[] #[]] RS
   (.cons (.slice 14 0 2 2 cap ⟨g,0,4,(cap - 2) * 2,2,none⟩ m14 (.inr ⟨by simp,rfl,h2,by show 0+cap * 2≤4+(cap - 2) * 2;omega⟩)) (.cons (.func _ _ _ _ _ rfl (fun i x x' h=>by simp at h) rfl (fun i x x' h=>by simp at h)) .nil))
  refine hc.mono ?_
  rintro e u ⟨ν,v',rfl,G,rv⟩
  cases rv with
  |tuple _ xs' h1 h2=>
   have:xs'= #[]:=Array.eq_empty_of_size_eq_zero h1.symm
   subst this
   refine⟨rfl,G.os,G.tape,G.out,G.size,fun k hk=>?_⟩
   refine G.frame k (nU hk B.size) ?_
   rintro⟨b',o,p,ho,hp,rfl⟩
   rw[zgY] at ho
   split at ho
   ·rename_i e
    subst e
    rw[m14] at hp
    simp only[sJ] at hp;subst hp
    simp at hk;omega
   ·simp at ho
theorem zoJ(args:Array Value)(w:World):(callFunc 59 args).run Tryz.prog w= .ok (.enter 59 args) w:=by kernel_rfl
theorem zoI(args:Array Value)(w:World):(callFunc 60 args).run Tryz.prog w= .ok (.enter 60 args) w:=by kernel_rfl
theorem zoL(args:Array Value)(w:World):(callFunc 34 args).run Tryz.prog w= .ok (.enter 34 args) w:=by kernel_rfl
theorem zoK(args:Array Value)(w:World):(callFunc 35 args).run Tryz.prog w= .ok (.enter 35 args) w:=by kernel_rfl
def K12(x:Value):Prop:=x= .agg #[.int .i64 1,.int .i64 1]∨x= .agg #[.int .i64 2,.int .i64 2]
theorem zkK{y1 y2:Value}(h1:K12 y1)(h2:K12 y2):∃ a b c d,y1.cells.toList++y2.cells.toList=[.int .i64 a,.int .i64 b,.int .i64 c,.int .i64 d]∧zbh a b c d=true:=by
 rcases h1 with rfl|rfl <;>rcases h2 with rfl|rfl
 ·exact⟨1,1,1,1,rfl,zm7⟩
 ·exact⟨1,1,2,2,rfl,zm6⟩
 ·exact⟨2,2,1,1,rfl,zm5⟩
 ·exact⟨2,2,2,2,rfl,zm4⟩
set_option maxRecDepth 100000 in
set_option maxHeartbeats 2000000 in
theorem zme{μ:Loc}{h:Heap}{w:World}(R:Rep μ h w)(pb b clock:Nat)(x1 x2:MapEntry)(hne:x1.born≠x2.born)(hb1:x1.born < clock)(hb2:x2.born < clock)(hk1:K12 x1.key)(hk2:K12 x2.key)
  (hm:w.cell? ⟨pb,0,none⟩=some (.map (some b))) (hb:w.heap[b]? =some (.map #[x1,x2] clock)):
  Calls Tryz.prog 18 #[.pointer (some ⟨pb,0,none⟩)] w fun e u=>∃ g cap:Nat,e= .returned (.slice (some ⟨g,0,none⟩) 2 cap)∧g < u.heap.size∧2≤cap∧Below w.heap.size w u:=by
 have i1:IsKey x1.key:=by rcases hk1 with e|e <;>exact⟨_,_,e⟩
 have i2:IsKey x2.key:=by rcases hk2 with e|e <;>exact⟨_,_,e⟩
 have hblt:b < w.heap.size:=(Array.getElem?_eq_some_iff.1 hb).1
 have e34:=zoL
 have e35:=zoK
 have hSorted:∀ w1:World,w1=w.alloc (.cells #[.map (some b)] 96)→Calls Tryz.prog 34 #[.func (.func 61) #[] #[.pointer (some ⟨w.heap.size,0,none⟩)],.func (.func 36) #[] #[]] w1 fun e u=>∃ g cap:Nat,e= .returned (.slice (some ⟨g,0,none⟩) 2 cap)∧g < u.heap.size∧2≤cap∧Below w.heap.size w u:=by
  intro w1 hw1
  have e59:=zoJ
  have e60:=zoI
  have hB1:Below w.heap.size w w1:=by rw[hw1];exact(Below.refl _ w).alloc (nL_ _) _
  have hm1:w1.cell? ⟨w.heap.size,0,none⟩=some (.map (some b)):=by
   have:w1.heap[w.heap.size]? =some (.cells #[.map (some b)] 96 (0,0)):=by rw[hw1];exact World.alloc_heap_new w _
   simp[World.cell?,this]
  have hs1:w1.heap.size=w.heap.size+1:=by rw[hw1];simp
  have hck:=collectKeys w.heap.size b clock x1 x2 hne hb1 hb2 i1 i2 w1 (by omega) hm1 ((hB1.block b hblt).trans hb)
  clear hw1
  go_enter Tryz.func34,Tryz.ntmps34
  go_wp2_with (go_at_fn 59;refine hck.mono ?_)
  rintro e w2 ⟨g,cap,cur,y1,y2,rfl,hg,hgb,hcap,hcs,h4,hy1,hy2,hB2⟩
  have k1:K12 y1:=by rcases hy1 with rfl|rfl <;>assumption
  have k2:K12 y2:=by rcases hy2 with rfl|rfl <;>assumption
  obtain⟨a,b',c,d,h5,hs⟩:=zkK k1 k2
  have hB:Below w.heap.size w w2:=hB1.trans (hB2.mono (by omega))
  have hsc:=zi4 R hB hs (by omega) hgb hcap hcs (h4.trans h5)
  go_wp2_with (go_at_fn 60;refine hsc.mono ?_)
  rintro e w3 ⟨rfl,hB3⟩
  go_wp2
  go_ret
  exact⟨g,cap,rfl,nU (Array.getElem?_eq_some_iff.1 hgb).1 hB3.size,hcap,hB.trans hB3⟩
 go_enter Tryz.func18,Tryz.ntmps18
 go_wp2_with (go_at_fn 35;refine(keysFn (some b) _).mono ?_)
 rintro e w1 ⟨rfl,rfl⟩
 go_wp2_with (go_at_fn 34;refine(hSorted _ rfl).mono ?_)
 rintro e u ⟨g,cap,rfl,hgl,hcap,hB⟩
 go_wp2
 go_ret
 exact⟨g,cap,rfl,hgl,hcap,hB⟩
end Go.PanE
