/- What the row of ChunkCutting wants: the heap in which the two listed tables are laid meets the condition. -/
import Derived.Test.YtealmnllljoolaaDoorRows
import Derived.ProofKit
import Derived.LaidMore
import Derived.OpenShut
import Derived.Lay
import Derived.Stop.Joined
import Derived.MakeChecks
namespace Go.Proofs.YtealmnllljoolaaDoor
open Go.ChangeShapes Go.WideShapes Go.ChangeAt Go.RowKit
abbrev laidPage : List (String × DataW Unit) := [("unicode/utf8.acceptRanges", Rows.laid_unicode_utf8_acceptRanges), ("unicode/utf8.first", Rows.laid_unicode_utf8_first)]
noncomputable abbrev startPage (os : Os) : World := World.laidAll Tryd.prog os laidPage
theorem door_met_page (os : Os) (args : Array Value) : laidMetH Tryd.prog laidPage ((startPage os).forCall (fun _ _ => 0) ⟨#[], args, []⟩).memory := by
  rw [MakeChecks.laidMetH_plain _ _ _ (by kernel_rfl)]
  exact laidMet_laidAll _ (by kernel_rfl) (by kernel_rfl)
end Go.Proofs.YtealmnllljoolaaDoor
