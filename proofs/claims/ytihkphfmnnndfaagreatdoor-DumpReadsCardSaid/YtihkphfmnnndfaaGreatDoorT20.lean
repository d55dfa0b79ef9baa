/-
 Part 20 of the proof of Rows.DumpReadsCardSaid: wakes, run.
 No conditions.
-/
import Derived.Test.YtihkphfmnnndfaaGreatDoorT18
namespace Go.PanE
open Go.Proofs
theorem wakes_run(m:Int):runA En orcW (drawnF En) 5000 60 6 [] (h0 m)=some (.bool true,h0 m):=by kernel_rfl
end Go.PanE
