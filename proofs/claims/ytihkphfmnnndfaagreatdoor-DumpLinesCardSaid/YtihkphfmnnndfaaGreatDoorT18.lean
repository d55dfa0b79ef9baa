/-
 Part 18 of the proof of Rows.DumpLinesCardSaid. No conditions.
-/
import Derived.Test.YtihkphfmnnndfaaGreatDoorT17
namespace Go.PanE
open Go.Proofs
theorem zky(m:Int):zB En orcW (zhd En) 18446744073709551616 60 6 [] (h0 m)=some (.bool true,h0 m):=by kernel_rfl
end Go.PanE
