/-
 Part 15 of the proof of Rows.DumpLinesCardSaid. No conditions.
-/
import Derived.Test.YtihkphfmnnndfaaGreatDoorT12
import Derived.Test.YtihkphfmnnndfaaGreatDoorT14
namespace Go.PanE
open Go.Proofs Go.RowKit
def zcF(args:Vs)(h:Heap):Option (Value×Heap):=
 match args with
 |[.nilIface,.iface 309 _]=>some (.bool false,h)
 |[.iface 309 (.pointer (some ⟨b,o,none⟩)),.iface 309 (.pointer (some ⟨b',o',none⟩))]=>bif Nat.beq b b' && Nat.beq o o' then some (.bool true,h) else none
 |_=>none
theorem znB{args:Vs}{h h':Heap}{v:Value}(e:zcF args h=some (v,h')):Keep h h'∧∀ (μ:Loc) (w:World) (args':Vs),Rep μ h w→zh μ args args'→
  Calls Tryz.prog 75 ⟨args'⟩ w fun e u=>∃ ν v',e= .returned v'∧Go1 μ h w ν h' u∧VRel ν v v':=by
 unfold zcF at e
 split at e
 ·rename_i x
  simp only[sJ,pJ] at e
  obtain⟨rfl,rfl⟩:=e
  refine⟨Keep.refl _,fun μ w args' R hl=>?_⟩
  obtain⟨a',b',rfl,ra,rb⟩:=hl.two
  cases ra
  cases rb with
  |iface _ _ x' _=>
   refine(AsSource.is_nil x' w).mono ?_
   rintro e u ⟨rfl,rfl⟩
   exact⟨μ,_,rfl,Go1.refl R,.bool _⟩
 ·rename_i b o b' o'
  cases hb:(Nat.beq b b' && Nat.beq o o') with
  |false=>rw[hb] at e;simp at e
  |true=>
   rw[hb] at e
   simp only[cond_true,sJ,pJ] at e
   obtain⟨rfl,rfl⟩:=e
   rw[bA] at hb
   have h1:=nB_ hb.1
   have h2:=nB_ hb.2
   subst h1;subst h2
   refine⟨Keep.refl _,fun μ w args' R hl=>?_⟩
   obtain⟨a',b'',rfl,ra,rb⟩:=hl.two
   cases ra with
   |iface _ _ x' rx=>
    cases rb with
    |iface _ _ y' ry=>
     cases rx with
     |ptr _ _ p hp=>
      cases ry with
      |ptr _ _ q hq=>
       rw[hp] at hq
       simp only[sJ] at hq;subst hq
       refine(AsSource.is_same ⟨p.pb,p.po+o,none⟩ w).mono ?_
       rintro e u ⟨rfl,rfl⟩
       exact⟨μ,_,rfl,Go1.refl R,.bool _⟩
 ·simp at e
end Go.PanE
