/- The plain law of PageSeals: the walk's answers and the reference's are one. -/
import Derived.Test.YthkcnkhhaiapfaaDoorPPageAllx42
import Derived.Test.YthkcnkhhaiapfaaDoorPagePure
namespace Go.Proofs.YthkcnkhhaiapfaaDoor.Pure
open Go Go.RowKit Go.Proofs.YthkcnkhhaiapfaaDoor.PPageAll Go.Proofs.YthkcnkhhaiapfaaDoorW.PrintWords Go.Proofs.YthkcnkhhaiapfaaDoorW.PrintLast
theorem seals_total (a0 a1 : Int) (s : ByteArray) : ∃ t e, page_Seal.f a0 a1 s = some (t, e) := by
  unfold page_Seal.f
  split
  · exact ⟨_, _, rfl⟩
  · split
    · exact ⟨_, _, rfl⟩
    · exact ⟨_, _, rfl⟩
theorem PageSeals : aquiferlaw09_PageSeals.Pure := by
  intro a0 a1 a2 _ _ _
  unfold aquiferlaw09_PageSeals.f
  rw [if_pos (by unfold mn; omega), if_pos (by unfold mn; omega)]
  generalize a2.extract 0 (mn (a2.size : Int) 510).toNat = s
  obtain ⟨t, e, h⟩ := seals_total a0 a1 s
  have h2 : aquiferref09_Seal.f a0 a1 s = some (t, e) := h
  rw [h, Option.bind_some, h2, Option.bind_some, if_pos rfl, if_pos rfl, Page.works_f, Option.bind_some]
end Go.Proofs.YthkcnkhhaiapfaaDoor.Pure
