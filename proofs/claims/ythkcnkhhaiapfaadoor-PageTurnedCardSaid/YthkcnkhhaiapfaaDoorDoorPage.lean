/- What the rows of the pages share: the heap in which the three listed tables are laid meets the condition; the condition gives the walks the sum's table. -/
import Derived.Test.YthkcnkhhaiapfaaDoorDoor
import Derived.Lay
namespace Go.Proofs.YthkcnkhhaiapfaaDoor
open Go.ChangeShapes Go.WideShapes Go.ChangeAt Go.RowKit
abbrev laidPage : List (String × DataW Unit) := [("aquifer/castagnoli.half", Rows.laid_aquifer_castagnoli_half), ("unicode/utf8.acceptRanges", Rows.laid_unicode_utf8_acceptRanges), ("unicode/utf8.first", Rows.laid_unicode_utf8_first)]
noncomputable abbrev startPage (os : Os) : World := World.laidAll Tryd.prog os laidPage
theorem door_met_page (os : Os) (args : Array Value) : laidMetH Tryd.prog laidPage ((startPage os).forCall (fun _ _ => 0) ⟨#[], args, []⟩).memory := by
  rw [MakeChecks.laidMetH_plain _ _ _ (by kernel_rfl)]
  exact laidMet_laidAll _ (by kernel_rfl) (by kernel_rfl)
theorem glob_page {W : World} (h : laidMetH Tryd.prog laidPage W) : Glob W := by
  rw [MakeChecks.laidMetH_plain _ _ _ (by kernel_rfl)] at h
  have h' : laidMet Tryd.prog (("aquifer/castagnoli.half", Lib.tabData .u32 (Crc.tab.map Int.ofNat)) :: [("unicode/utf8.acceptRanges", Rows.laid_unicode_utf8_acceptRanges), ("unicode/utf8.first", Rows.laid_unicode_utf8_first)]) W := h
  exact glob_of_tab (Lib.tabIs_of_head gHalf tHalf Tryd.underlying59 Tryd.underlying22 (by kernel_rfl) (by kernel_rfl) h')
end Go.Proofs.YthkcnkhhaiapfaaDoor
