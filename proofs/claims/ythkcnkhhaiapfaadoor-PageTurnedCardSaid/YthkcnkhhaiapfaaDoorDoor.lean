/- What the rows that list the sum's table share: the heap that the door's own run leaves meets the condition; the condition gives the walks the table. -/
import Derived.Test.YthkcnkhhaiapfaaDoorRows
import Derived.Test.YthkcnkhhaiapfaaDoorWGlob
import Derived.ProofKit
import Derived.LaidMore
import Derived.OpenShut
import Derived.Stop.Joined
import Derived.Lib.LaidTab
import Derived.MakeChecks
namespace Go.Proofs.YthkcnkhhaiapfaaDoor
open Go.ChangeShapes Go.WideShapes Go.ChangeAt Go.RowKit
abbrev laidOne : List (String × DataW Unit) := [("aquifer/castagnoli.half", Rows.laid_aquifer_castagnoli_half)]
noncomputable abbrev startOne (os : Os) : World := World.doorLaid Tryd.prog 24 os
theorem door_met (os : Os) (args : Array Value) : laidMetH Tryd.prog laidOne ((startOne os).forCall (fun _ _ => 0) ⟨#[], args, []⟩).memory :=
  laidMetH_of_parts3 (fuel := 8) (laidMet_of_run' 8 (by kernel_rfl) (by kernel_rfl)) (by kernel_rfl) (by kernel_rfl)
theorem gHalf : Tryd.prog.globalNamed "aquifer/castagnoli.half" = some 0 := by kernel_rfl
theorem tHalf : (Tryd.prog.globals[0]?).map (·.type) = some 59 := by kernel_rfl
theorem half_data : (Rows.laid_aquifer_castagnoli_half : DataW Unit) = Lib.tabData .u32 (Crc.tab.map Int.ofNat) := rfl
theorem glob_of_tab {W : World} (h : Lib.TabIs Tryd.prog W "aquifer/castagnoli.half" .u32 (Crc.tab.map Int.ofNat)) : Glob W := by
  intro i hi
  have := h.cell gHalf i (by simpa [Crc.tab] using hi)
  rw [this]
  unfold Crc.half
  simp only [List.getD_eq_getElem?_getD, List.getElem?_map]
  cases hx : Crc.tab[i]? <;> rfl
theorem glob_of {W : World} (h : laidMetH Tryd.prog laidOne W) : Glob W := by
  rw [MakeChecks.laidMetH_plain _ _ _ (by kernel_rfl)] at h
  have h' : laidMet Tryd.prog [("aquifer/castagnoli.half", Lib.tabData .u32 (Crc.tab.map Int.ofNat))] W := h
  exact glob_of_tab (Lib.tabIs_of_head gHalf tHalf Tryd.underlying59 Tryd.underlying22 (by kernel_rfl) (by kernel_rfl) h')
end Go.Proofs.YthkcnkhhaiapfaaDoor
