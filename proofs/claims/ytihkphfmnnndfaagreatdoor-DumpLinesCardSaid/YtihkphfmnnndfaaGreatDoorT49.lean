/-
 Part 49 of the proof of Rows.DumpLinesCardSaid. No conditions.
-/
import Derived.Test.YtihkphfmnnndfaaGreatDoorT47
import Derived.Test.YtihkphfmnnndfaaGreatDoorT48
import Derived.ChangeMaps5
import Derived.ChangeOld
import Derived.Deep.DeepWitnessRowRef
import Derived.LaidHandle
import Derived.ReadAgain
import Derived.Test.YtihkphfmnnndfaaGreatDoorTie
namespace Go.PanE
open Go.Proofs Go.Proofs.YtihkphfmnnndfaaGreatDoor
open Go.ChangeShapes Go.WideShapes Go.ChangeAt Go.RowKit
theorem zzY:ownKnob Tryz.prog.godebug=none:=by kernel_rfl
theorem zrg{W u:World}(h1:u.os=W.os)(h2:u.output=W.output)(h3:∀ i,i < W.heap.size→u.heap[i]? =W.heap[i]?)(may:MemPlace→Prop):W.keptBut u may:=by
 refine⟨h1,h2,fun i hi=>?_⟩
 rw[h3 i hi]
 split
 next c t fr c' t' fr' e e'=>
  rw[e] at e'
  cases e'
  exact⟨rfl,rfl,rfl,fun _ _=>rfl⟩
 next es clock es' clock' e e'=>
  rw[e] at e'
  cases e'
  exact .inr ⟨rfl,rfl⟩
 next=>rfl
theorem zw6:Kids Tryz.prog (·< Tryz.prog.types.size):=kids_rows (by kernel_rfl) (by kernel_rfl)
theorem zxe:∀ t e,t < Tryz.prog.types.size→Tryz.prog.underlying t=some (.slice e)→0 < Tryz.prog.cellsOf e:=slices_full_of Tryz.prog (by kernel_rfl)
theorem zef{H:Type}{enc:TypeId×Value→H}{W u:World}(h3:∀ i,i < W.heap.size→u.heap[i]? =W.heap[i]?):∀ {ts:List TypeId} {vs:Vs} {ds:List (DataW H)} {ps:List MemPlace},
  DataW.TrodAll enc Tryz.prog W 0 (fun b=>decide (b < W.heap.size)) true ts vs ds ps→DataW.TrodAll enc Tryz.prog u 0 (fun b=>decide (b < W.heap.size)) true ts vs ds ps
 |[],[],[],_,h=>h
 |_::_,_::_,_::_,_,⟨p,q,⟨n,h1⟩,h2,e⟩=>⟨p,q,⟨n,DataW.trod_carry n _ _ _ h1 fun x hx=>by
   have hl:=DataW.trod_lt n _ _ _ h1 x hx
   cases x with
   |cell b o=>
    show u.cell? _=W.cell? _
    unfold World.cell?
    rw[h3 b hl]
   |map b=>exact h3 b hl⟩,zef h3 h2,e⟩
theorem zyt:Tryz.prog.underlying 22=some (.slice 45):=by kernel_rfl
theorem zys:Tryz.prog.underlying 23=some (.slice 31):=by kernel_rfl
instance : Inhabited Edt:=⟨⟨0,0,0,0,0,0,0,[]⟩⟩
instance : Inhabited Ent:=⟨⟨0,0,0,0,[]⟩⟩
theorem zwZ:sameLayout Tryz.prog Tryz.prog.depth 5 45=false:=by kernel_rfl
theorem zw0:sameLayout Tryz.prog Tryz.prog.depth 5 31=false:=by kernel_rfl
set_option maxRecDepth 100000 in
theorem contract3(H:Type)(enc:TypeId×Value→H)(W:World)(base:Nat)(args:Array Value)(ds gs:List (DataW H))(before:List MemPlace)
  (hval:∀ (j:Nat) t v,Tryz.f3.params[j]? =some t→args[j]? =some v→Value.okWide Tryz.prog W .any base t v)
  (hW:DataW.Whole enc Tryz.prog Tryz.f3.params.toList Rows.dumpLinesSpec.vars false W args.toList ds gs before) (hL:laidMetH Tryz.prog Rows.dumpLinesRow.laid W) (hS:W.ShapedOpen Tryz.prog):
  Calls Tryz.prog 3 args W fun e W'=>∃ v,e= .returned v∧Rows.dumpLinesSpec.post enc Tryz.prog Tryz.f3 false true false false W args v W':=by
 have hW':=hW
 obtain⟨p,q,hA0,hV,rfl,hfz,hnd⟩:=hW
 have hA1:DataW.TrodAll enc Tryz.prog W 0 (fun _=>true) true Tryz.f3.params.toList args.toList ds p:=hA0
 have hA:=hA1
 have pr:Tryz.f3.params= #[22,23]:=by kernel_rfl
 have res:Tryz.f3.resultTypes= #[4]:=by kernel_rfl
 rw[pr] at hA hval
 obtain⟨v0,vs0,d0,ds0,p0,q0,hargs,rfl,rfl,t0,r0⟩:=trodAll_cons hA
 obtain⟨v1,vs1,d1,ds1,p1,q1,rfl,rfl,rfl,t1,r1⟩:=trodAll_cons r0
 obtain⟨rfl,rfl,rfl⟩:=trodAll_nil r1
 obtain rfl:args= #[v0,v1]:=by cases args;simp_all
 obtain⟨rfl,rfl⟩:=trodVars_none hV
 obtain⟨f45,g45,k45,l45,hu45,_⟩:=zsC
 obtain⟨f31,g31,hu31,_⟩:=zsD
 obtain⟨L,x,px,rx,X,_,hx,hLn⟩:=zmj (f:=edL) (Q:=fun _=>True) zyt hu45 zwZ zBQ (by decide) (fun _=>rfl) (fun cs h hl=>zxv h hl) (fun e μ=>.cons (.int _ _) (.cons (.int _ _) (.cons (.int _ _) (.cons (.int _ _) (.cons (.int _ _) (.cons (.int _ _) (.cons (.int _ _) (.cons (.str _) .nil)))))))) (hval 0 22 v0 rfl rfl) t0 14
 obtain⟨V,y,py,ry,Y,hV,hy,_⟩:=zmj (f:=enL) (Q:=fun e=>-9223372036854775808≤e.v∧e.v≤9223372036854775807) zys hu31 zw0 zBS (by decide) (fun _=>rfl) (fun cs h hl=>zxt h hl) (fun e μ=>.cons (.int _ _) (.cons (.int _ _) (.cons (.int _ _) (.cons (.int _ _) (.cons (.str _) .nil))))) (hval 1 23 v1 rfl rfl) t1 15
 obtain⟨m,b1,o1,b4,o4,b5,o5,S⟩:=zm3 hL hS
 have hLn:L.length < 9223372036854775808:=Nat.lt_of_le_of_lt hLn (by decide)
 refine(zxL S L V X Y hLn hV hx hy).mono fun e W' ⟨he,h1,h2,h3⟩=>?_
 subst he
 have hT:∀ t∈Tryz.f3.params.toList,t < Tryz.prog.types.size:=by
  rw[pr,tsz]
  intro t ht
  simp only[List.mem_cons,List.not_mem_nil,or_false] at ht
  rcases ht with rfl|rfl <;>decide
 have hA2:=DataW.TrodAll.respare (spare':=fun b=>decide (b < W.heap.size)) zw6 zxe hT hA1 fun x hx=>dT (DataW.TrodAll.lt hA1 x hx)
 refine⟨_,rfl,_,_,_,[],_,[],hW',?_,zef h3 hA2,rfl,zrg h1 h2 h3 _,fun h=>by cases h⟩
 rw[res];exact trodAll_cons_mk (shut_bool un4 _) trodAll_mk0
/-! A world for the witness. -/
def zmf:DataW Unit→Vs
 | .lit (.int k n)=>[.int k n]
 |_=>[]
def za9:DataW Unit→Vs
 | .agg ps=>ps.flatMap zmf
 |d=>zmf d
def zuF:DataW Unit→Vs
 | .agg ps=>ps.flatMap za9
 |d=>za9 d
def zbl(k:Nat)(cs:Vs)(h:Array Obj):Array Obj:=h.modify k fun
 | .cells _ t fr=>.cells cs.toArray t fr
 |o=>o
def zmZ(d:DataW Unit):BA:=match d with| .iface _ (.ptr (.agg [.lit (.string s)]))=>⟨⟨s⟩⟩|_=>⟨#[]⟩
noncomputable def zcg(os:Os):World:=
 let w0:=World.holding Tryz.prog os ⟨#[.cells #[.string (zmZ Rows.laid_pannier_source_errLong)] 311,.cells #[.string (zmZ Rows.laid_strconv_ErrSyntax)] 311,.cells #[.string (zmZ Rows.laid_strconv_ErrRange)] 311],#[],[]⟩
 {w0 with heap:=zbl 0 [.iface 168 (.agg #[.pointer (some ⟨10,84,none⟩)])] (zbl 1 [.iface 309 (.pointer (some ⟨15,0,none⟩))] (zbl 4 [.iface 309 (.pointer (some ⟨16,0,none⟩))] (zbl 5 [.iface 309 (.pointer (some ⟨17,0,none⟩))]
   (zbl 3 (za9 Rows.laid_internal_strconv_uint64pow10) (zbl 6 (za9 Rows.laid_math_bits_deBruijn32tab) (zbl 7 (za9 Rows.laid_math_bits_deBruijn64tab) (zbl 8 (za9 Rows.laid_unicode_utf8_first) (zbl 9 (zuF Rows.laid_unicode_utf8_acceptRanges) w0.heap))))))))}
abbrev zkh:Array Value:= #[.slice none 0 0,.slice none 0 0]
theorem zod(os:Os):laidMetH Tryz.prog Rows.dumpLinesRow.laid ((zcg os).forCall (fun _ _=>0) ⟨#[],zkh,[]⟩).memory:=
 laidMetH_of_parts (by rw[zd1];exact laidMet_of_run' 8 (by kernel_rfl) (by kernel_rfl)) (by kernel_rfl)
theorem zs9(os:Os){H:Type}(enc:TypeId×Value→H):∃ places,DataW.whole enc Tryz.prog ((zcg os).forCall (fun _ _=>0) ⟨#[],zkh,[]⟩).memory Tryz.f3.params.toList Rows.dumpLinesSpec.vars false zkh.toList 8=some ([.nil,.nil],[],places):=
 ⟨[],by kernel_rfl⟩
set_option maxRecDepth 100000 in
theorem zq8(os:Os)(started:os.Started)(H:Type)(enc:TypeId×Value→H)(F:Stop.Interp):
  ReturnsInHanded {} Tryz.checked os 3 .any ((OpenSpec.ofChange Rows.dumpLinesSpec).preRow enc Tryz.prog Tryz.f3 Rows.dumpLinesRow.domain false Rows.dumpLinesRow.laid) (((OpenSpec.ofChange Rows.dumpLinesSpec).at F).post enc Tryz.prog Tryz.f3 false true false false):=by
 obtain⟨places,hx⟩:=zs9 os enc
 refine returnsInHanded_of_row (C:=Tryz.checked) (s:=OpenSpec.ofChange Rows.dumpLinesSpec) zzY started (by kernel_rfl) Tryz.func3
  (witness_row_atRef (enc:=enc) (C:=Tryz.checked) false (zcg os) zkh rfl (by kernel_rfl) (by kernel_rfl) (by kernel_rfl)
   (OpenSpec.preRow_of_cond 8 hx (by kernel_rfl) (fun k hk=>by cases hk) (by kernel_rfl) (zod os))) ?_
 intro W base args ds gs before hval hW _ _ _ hL hS _
 exact contract3 H enc W base args ds gs before hval hW hL hS
set_option maxRecDepth 100000 in
theorem zB3:Rows.DumpLinesSaid:=
 OpenClaim.holds_of_cond 3 Tryz.f3 rfl rfl rfl rfl rfl rfl rfl ⟨rfl,rfl,rfl,rfl,rfl⟩ rfl rfl rfl rfl rfl (by kernel_rfl) Tryz.func3 facts3
  (of_decide_eq_true (by kernel_rfl)) (by unfold Func.isWrapper;first|(rw[if_pos (by decide+kernel)];kernel_rfl)|(rw[if_neg (by decide+kernel)];exact⟨rfl,rfl⟩))
  (fun os started H enc _ F=>by rw[OpenClaim.pre_eq_preRow];exact zq8 os started H enc F)
theorem zB2(f:FuncId)(fn:Func)(hf:Tryz.pinned.checked.prog.funcNamed "pannier/pannierlaw28.DumpLines" =some f)(hfn:Tryz.pinned.checked.prog.funcs[f]? =some fn):
  true=Tryz.pinned.checked.prog.looks []∧∀ (j:Nat) t,fn.params[j]? =some t→Tryz.pinned.checked.prog.wantsStandIn t=false:=by
 obtain rfl:f=3:=Option.some.inj ((show Tryz.prog.funcNamed "pannier/pannierlaw28.DumpLines" =some 3 by kernel_rfl).symm.trans hf) |>.symm
 obtain rfl:fn=Tryz.f3:=(Option.some.inj (Tryz.func3.symm.trans hfn)).symm
 refine⟨by kernel_rfl,fun j t ht=>?_⟩
 have pr:Tryz.f3.params= #[22,23]:=by kernel_rfl
 rw[pr] at ht
 have:=Array.mem_of_getElem? ht
 simp only[List.mem_toArray,List.mem_cons,List.not_mem_nil,or_false] at this
 rcases this with rfl|rfl
 ·exact(show Tryz.prog.wantsStandIn 22=false by kernel_rfl)
 ·exact(show Tryz.prog.wantsStandIn 23=false by kernel_rfl)
end Go.PanE
namespace Go.Proofs.YtihkphfmnnndfaaGreatDoor
theorem dumpLines_holds:Rows.DumpLinesCardSaid:=
 Claim7.holds_tied_plain_at .later [] _ _ _ _ Go.PanE.zB3 (fun _ h=>by cases h) (by kernel_rfl) (fun _ h=>by cases h) dumpLines_row_tie rfl ⟨rfl,rfl⟩ (by kernel_rfl) rfl Go.PanE.zB2 (by kernel_rfl)
end Go.Proofs.YtihkphfmnnndfaaGreatDoor
#print axioms Go.Proofs.YtihkphfmnnndfaaGreatDoor.dumpLines_holds
