/-
 Part 48 of the proof of Rows.DumpLinesCardSaid. No conditions.
-/
import Derived.Test.YtihkphfmnnndfaaGreatDoorT38
import Derived.Test.YtihkphfmnnndfaaGreatDoorT46
import Derived.JoinedCond
namespace Go.PanE
open Go.Proofs Go.Proofs.YtihkphfmnnndfaaGreatDoor
noncomputable abbrev pR:Program:=Tryz.pinned.checked.prog
abbrev cR:OpenClaim:=Rows.dumpLinesRow
abbrev sR:ChangeSpec:=(OpenSpec.ofChange Rows.dumpLinesSpec).bare
theorem zP{a b:Bool}(h:a=true)(g:b=true):(a && b)=true:=by rw[h,g];rfl
theorem jf1:(cR.wf (OpenSpec.ofChange sR))=true:=by kernel_rfl
theorem jf2:(laidOutB pR)=true:=by kernel_rfl
theorem jf3:(mapsRowed pR)=true:=by kernel_rfl
theorem jf4:(Tryz.f3.params.all (pR.readableRec ·))=true:=by kernel_rfl
theorem jf5:(namedTie pR cR.named sR.vars)=true:=by kernel_rfl
theorem jf6:(cR.stops==[])=true:=by kernel_rfl
theorem jf7:(pR.stops==[])=true:=by kernel_rfl
theorem jf8:(cR.knobs==[])=true:=by kernel_rfl
theorem jf9:(pR.stopKnobs==[])=true:=by kernel_rfl
theorem zA6:(cR.inPlace==pR.inPlace 3)=true:=by kernel_rfl
theorem zA5:(cR.unfollowed==pR.unfollowed 3)=true:=by kernel_rfl
theorem zA4:(cR.recurses==pR.recurses 3)=true:=by kernel_rfl
theorem zA3:(cR.named==pR.varsNamed 3)=true:=by kernel_rfl
theorem zA2:(cR.maps==(Tryz.f3.params.toList++sR.plain.varTypes pR).any (pR.mapsRec ·))=true:=by kernel_rfl
theorem zA1:(cR.ifaces==(Tryz.f3.params.toList++sR.plain.varTypes pR).any (pR.ifacesRec ·))=true:=by kernel_rfl
theorem zA0:(cR.mapsOut==pR.mapsAmong Tryz.f3.resultTypes.toList)=true:=by kernel_rfl
theorem zAZ:(cR.loops==(Tryz.f3.params.toList++sR.plain.varTypes pR).any (pR.loopsFrom ·))=true:=by kernel_rfl
theorem zAY:(cR.wideKeys==(Tryz.f3.params.toList++sR.plain.varTypes pR++Tryz.f3.resultTypes.toList).any (pR.wideKeysFrom ·))=true:=by kernel_rfl
theorem zAX:(sR.vars.all (pR.varReadable ·))=true:=by kernel_rfl
theorem zAW:(Tryz.f3.resultTypes.all (fun t=>pR.readableRec t && decide (t < pR.types.size)))=true:=by kernel_rfl
theorem zAV:(cR.ifacesOut==Tryz.f3.resultTypes.toList.any (pR.ifacesRec ·))=true:=by kernel_rfl
theorem zAU:(cR.loopsOut==Tryz.f3.resultTypes.toList.any (pR.loopsFrom ·))=true:=by kernel_rfl
theorem zAT:(cR.plainKeys==pR.plainKeys)=true:=by kernel_rfl
theorem zAS:(cR.shortTexts.isNone)=true:=by kernel_rfl
theorem zAR:(pR.stopsHeard)=true:=by kernel_rfl
theorem zAQ:(pR.mayEnter)=true:=by kernel_rfl
theorem zAP:(cR.lifted==pR.liftsFinal)=true:=by kernel_rfl
theorem zAO:(pR.make==some cR.make)=true:=by kernel_rfl
theorem zAN:(cR.kinds==(if cR.domain.isEmpty then[] else Tryz.f3.params.toList.map fun t=>match pR.underlying t with|some (.int k)=>some k|_=>none))=true:=by kernel_rfl
theorem zAM:(cR.pinned==cR.pinnedBy)=true:=by kernel_rfl
theorem zAL:(cR.veiled==(Tryz.f3.params.toList++sR.plain.varTypes pR++Tryz.f3.resultTypes.toList).any (pR.veiledRec ·))=true:=by kernel_rfl
theorem zAK:(cR.veiledFits pR Tryz.f3.params.toList (Tryz.f3.params.toList++sR.plain.varTypes pR++Tryz.f3.resultTypes.toList))=true:=by kernel_rfl
set_option maxRecDepth 100000 in
theorem facts3:joinedFacts pR 3 Tryz.f3 sR cR=true:=by
 unfold joinedFacts
 exact zP (zP (zP (zP (zP (zP (zP (zP (zP (zP (zP (zP (zP (zP (zP (zP (zP (zP (zP (zP (zP (zP (zP (zP (zP (zP (zP (zP (zP (zP (zP jf1 jf2) jf3) jf4) jf5) jf6) jf7) jf8) jf9) zA6) zA5) zA4) zA3) zA2) zA1) zA0) zAZ) zAY) zAX) zAW) zAV) zAU) zAT) zAS) zAR) zAQ) zAP) zAO) zAN) zAM) zAL) zAK
end Go.PanE
