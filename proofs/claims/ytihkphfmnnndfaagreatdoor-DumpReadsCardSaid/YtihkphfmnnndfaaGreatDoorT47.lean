/-
 Part 47 of the proof of Rows.DumpReadsCardSaid: DumpReads: the row's statement and the card.
 No conditions.
-/
import Derived.Test.YtihkphfmnnndfaaGreatDoorT46
import Derived.ChangeMaps5
import Derived.Deep.DeepWitnessRowRef
import Derived.LaidHandle
import Derived.Test.YtihkphfmnnndfaaGreatDoorTie
namespace Go.PanE
open Go.Proofs Go.Proofs.YtihkphfmnnndfaaGreatDoor
open Go.ChangeShapes Go.WideShapes Go.ChangeAt Go.RowKit
theorem own4:ownKnob Tryz.prog.godebug=none:=by kernel_rfl
/-- What is kept of a heap that is the same. -/
theorem kept_of{W u:World}(h1:u.os=W.os)(h2:u.output=W.output)(h3:∀ i,i < W.heap.size→u.heap[i]? =W.heap[i]?)(may:MemPlace→Prop):W.keptBut u may:=by
 refine⟨h1,h2,fun i hi=>?_⟩
 rw[h3 i hi]
 split
 next c t fr c' t' fr' e e'=>
  rw[e] at e'
  cases e'
  exact⟨rfl,rfl,rfl,fun _ _=>rfl⟩
 next es clock es' clock' e e'=>
  rw[e] at e'
  cases e'
  exact .inr ⟨rfl,rfl⟩
 next=>rfl
/-- The row's post, where nothing is read. -/
theorem post_same{H:Type}{enc:TypeId×Value→H}{P:Program}{f:Func}{s:ChangeSpec}{apart fresh handsOn again:Bool}{W W':World}{args:Array Value}{v:Value}{ds gs:List (DataW H)}
  (hW:DataW.Whole enc P f.params.toList s.vars apart W args.toList ds gs [])
  (hres:∀ (b:Nat) (sp:Nat→Bool) (hd:Bool),DataW.TrodAll enc P W' b sp hd f.resultTypes.toList (v.resultList f.resultTypes.size) (s.fn H (ds++gs)).results [])
  (hargs:∀ sp:Nat→Bool,DataW.TrodAll enc P W' 0 sp true f.params.toList args.toList (s.fn H (ds++gs)).args [])
  (hvars:∀ sp:Nat→Bool,DataW.TrodVars enc P W' sp s.vars (s.fn H (ds++gs)).vars [])
  (hk:W.keptBut W' (fun _=>False))
  (hok:∀ (j:Nat) (t:TypeId) (r:Value),f.resultTypes[j]? =some t→(v.resultList f.resultTypes.size)[j]? =some r→Value.okWide P W' .any 0 t r):
  s.post enc P f apart fresh handsOn again W args v W':=by
 refine⟨ds,gs,[],[],[],[],hW,hres _ _ _,hargs _,hvars _,World.keptBut_mono (fun p hp=>hp.elim) hk,fun _=>?_⟩
 refine⟨hok,_,_,([]++[])++[],⟨[]++[],[],trodAll_append (hargs _) (hres _ _ _),hvars _,rfl,?_,?_⟩,?_⟩
 ·intro b off hp
  simp at hp
 ·intro _
  simp
 ·intro p hp _
  simp at hp
set_option maxRecDepth 100000 in
theorem contract4(H:Type)(enc:TypeId×Value→H)(W:World)(base:Nat)(args:Array Value)(ds gs:List (DataW H))(before:List MemPlace)
  (hval:∀ (j:Nat) t v,Tryz.f4.params[j]? =some t→args[j]? =some v→Value.okWide Tryz.prog W .any base t v)
  (hW:DataW.Whole enc Tryz.prog Tryz.f4.params.toList Rows.dumpReadsSpec.vars false W args.toList ds gs before) (hL:laidMetH Tryz.prog Rows.dumpReadsRow.laid W) (hS:W.ShapedOpen Tryz.prog):
  Calls Tryz.prog 4 args W fun e W'=>∃ v,e= .returned v∧Rows.dumpReadsSpec.post enc Tryz.prog Tryz.f4 false true false false W args v W':=by
 have hW':=hW
 obtain⟨p,q,hA0,hV,rfl,hfz,hnd⟩:=hW
 have hA:DataW.TrodAll enc Tryz.prog W 0 (fun _=>true) true Tryz.f4.params.toList args.toList ds p:=hA0
 have params4:Tryz.f4.params= #[9]:=by kernel_rfl
 have res4:Tryz.f4.resultTypes= #[4]:=by kernel_rfl
 rw[params4] at hA hval
 obtain⟨v0,vs0,d0,ds0,p0,q0,hargs,rfl,rfl,h0,r0⟩:=trodAll_cons hA
 obtain⟨rfl,rfl,rfl⟩:=trodAll_nil r0
 obtain rfl:args= #[v0]:=by cases args;simp_all
 obtain⟨rfl,rfl⟩:=trodVars_none hV
 obtain⟨s,rfl,rfl,rfl,hsz⟩:=Go.ChangeMaps.open_string un9 (hval 0 9 v0 rfl rfl) h0
 clear hA0
 simp only[List.append_nil] at hW'
 obtain⟨m,b1,o1,b4,o4,b5,o5,S⟩:=start_of hL hS
 refine(call4 S s).mono fun e W' ⟨he,h1,h2,h3⟩=>?_
 subst he
 refine⟨_,rfl,post_same hW' (fun _ _ _=>?_) (fun _=>?_) (fun _=>rfl) (kept_of h1 h2 h3 _) (ok_one res4 rfl (okWide_bool_mk un4 _))⟩
 ·rw[res4];exact trodAll_cons_mk (shut_bool un4 _) trodAll_mk0
 ·rw[params4];exact trodAll_cons_mk (Go.ChangeMaps.shut_string un9 hsz) trodAll_mk0
/-! A world for the witness. -/
def cells1:DataW Unit→List Value
 | .lit (.int k n)=>[.int k n]
 |_=>[]
def cells2:DataW Unit→List Value
 | .agg ps=>ps.flatMap cells1
 |d=>cells1 d
def cells3:DataW Unit→List Value
 | .agg ps=>ps.flatMap cells2
 |d=>cells2 d
def putC(k:Nat)(cs:List Value)(h:Array Obj):Array Obj:=h.modify k fun
 | .cells _ t fr=>.cells cs.toArray t fr
 |o=>o
def strC(d:DataW Unit):ByteArray:=match d with| .iface _ (.ptr (.agg [.lit (.string s)]))=>⟨⟨s⟩⟩|_=>⟨#[]⟩
noncomputable def laidWorld(os:Os):World:=
 let w0:=World.holding Tryz.prog os ⟨#[.cells #[.string (strC Rows.laid_pannier_source_errLong)] 311,.cells #[.string (strC Rows.laid_strconv_ErrSyntax)] 311,.cells #[.string (strC Rows.laid_strconv_ErrRange)] 311],#[],[]⟩
 {w0 with heap:=putC 0 [.iface 168 (.agg #[.pointer (some ⟨10,84,none⟩)])] (putC 1 [.iface 309 (.pointer (some ⟨15,0,none⟩))] (putC 4 [.iface 309 (.pointer (some ⟨16,0,none⟩))] (putC 5 [.iface 309 (.pointer (some ⟨17,0,none⟩))]
   (putC 3 (cells2 Rows.laid_internal_strconv_uint64pow10) (putC 6 (cells2 Rows.laid_math_bits_deBruijn32tab) (putC 7 (cells2 Rows.laid_math_bits_deBruijn64tab) (putC 8 (cells2 Rows.laid_unicode_utf8_first) (putC 9 (cells3 Rows.laid_unicode_utf8_acceptRanges) w0.heap))))))))}
abbrev arg0:Array Value:= #[.string ⟨#[]⟩]
theorem laid_met(os:Os):laidMetH Tryz.prog Rows.dumpReadsRow.laid ((laidWorld os).forCall (fun _ _=>0) ⟨#[],arg0,[]⟩).memory:=
 laidMetH_of_parts (by rw[laidN];exact laidMet_of_run' 8 (by kernel_rfl) (by kernel_rfl)) (by kernel_rfl)
theorem reads4(os:Os){H:Type}(enc:TypeId×Value→H):∃ places,DataW.whole enc Tryz.prog ((laidWorld os).forCall (fun _ _=>0) ⟨#[],arg0,[]⟩).memory Tryz.f4.params.toList Rows.dumpReadsSpec.vars false arg0.toList 8=some ([.lit (.string [])],[],places):=
 ⟨[],by kernel_rfl⟩
set_option maxRecDepth 100000 in
theorem lifted4(os:Os)(started:os.Started)(H:Type)(enc:TypeId×Value→H)(F:Stop.Interp):
  ReturnsInHanded {} Tryz.checked os 4 .any ((OpenSpec.ofChange Rows.dumpReadsSpec).preRow enc Tryz.prog Tryz.f4 Rows.dumpReadsRow.domain false Rows.dumpReadsRow.laid) (((OpenSpec.ofChange Rows.dumpReadsSpec).at F).post enc Tryz.prog Tryz.f4 false true false false):=by
 obtain⟨places,hx⟩:=reads4 os enc
 refine returnsInHanded_of_row (C:=Tryz.checked) (s:=OpenSpec.ofChange Rows.dumpReadsSpec) own4 started (by kernel_rfl) Tryz.func4
  (witness_row_atRef (enc:=enc) (C:=Tryz.checked) false (laidWorld os) arg0 rfl (by kernel_rfl) (by kernel_rfl) (by kernel_rfl)
   (OpenSpec.preRow_of_cond 8 hx (by kernel_rfl) (fun k hk=>by cases hk) (by kernel_rfl) (laid_met os))) ?_
 intro W base args ds gs before hval hW _ _ _ hL hS _
 exact contract4 H enc W base args ds gs before hval hW hL hS
set_option maxRecDepth 100000 in
theorem said4:Rows.DumpReadsSaid:=
 OpenClaim.holds_of_cond 4 Tryz.f4 rfl rfl rfl rfl rfl rfl rfl ⟨rfl,rfl,rfl,rfl,rfl⟩ rfl rfl rfl rfl rfl (by kernel_rfl) Tryz.func4 (by kernel_rfl)
  (of_decide_eq_true (by kernel_rfl)) (by unfold Func.isWrapper;first|(rw[if_pos (by decide+kernel)];kernel_rfl)|(rw[if_neg (by decide+kernel)];exact⟨rfl,rfl⟩))
  (fun os started H enc _ F=>by rw[OpenClaim.pre_eq_preRow];exact lifted4 os started H enc F)
theorem plain4(f:FuncId)(fn:Func)(hf:Tryz.pinned.checked.prog.funcNamed "pannier/pannierlaw28.DumpReads" =some f)(hfn:Tryz.pinned.checked.prog.funcs[f]? =some fn):
  true=Tryz.pinned.checked.prog.looks []∧∀ (j:Nat) t,fn.params[j]? =some t→Tryz.pinned.checked.prog.wantsStandIn t=false:=by
 obtain rfl:f=4:=Option.some.inj ((show Tryz.prog.funcNamed "pannier/pannierlaw28.DumpReads" =some 4 by kernel_rfl).symm.trans hf) |>.symm
 obtain rfl:fn=Tryz.f4:=(Option.some.inj (Tryz.func4.symm.trans hfn)).symm
 refine⟨by kernel_rfl,fun j t ht=>?_⟩
 have params4:Tryz.f4.params= #[9]:=by kernel_rfl
 rw[params4] at ht
 obtain rfl:t=9:=by simpa using Array.mem_of_getElem? ht
 exact(show Tryz.prog.wantsStandIn 9=false by kernel_rfl)
end Go.PanE
namespace Go.Proofs.YtihkphfmnnndfaaGreatDoor
/-- DumpReads: the card. -/
theorem dumpReads_holds:Rows.DumpReadsCardSaid:=
 Claim7.holds_tied_plain_at .later [] _ _ _ _ Go.PanE.said4 (fun _ h=>by cases h) (by kernel_rfl) (fun _ h=>by cases h) dumpReads_row_tie rfl ⟨rfl,rfl⟩ (by kernel_rfl) rfl Go.PanE.plain4 (by kernel_rfl)
end Go.Proofs.YtihkphfmnnndfaaGreatDoor
#print axioms Go.Proofs.YtihkphfmnnndfaaGreatDoor.dumpReads_holds
