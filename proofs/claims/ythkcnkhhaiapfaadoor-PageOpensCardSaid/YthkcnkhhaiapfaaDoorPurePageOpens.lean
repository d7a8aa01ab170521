/- The plain law of PageOpens: the walk's answers and the reference's are one. -/
import Derived.Test.YthkcnkhhaiapfaaDoorPPageAllx44
import Derived.Test.YthkcnkhhaiapfaaDoorPagePure
namespace Go.Proofs.YthkcnkhhaiapfaaDoor.Pure
open Go Go.RowKit Go.Proofs.YthkcnkhhaiapfaaDoor.PPageAll Go.Proofs.YthkcnkhhaiapfaaDoorW.PrintWords Go.Proofs.YthkcnkhhaiapfaaDoorW.PrintLast
theorem opened_total (a0 : Int) (s : ByteArray) : ∃ k b e, Page.opened a0 s = some (k, b, e) := by
  unfold Page.opened
  split
  · exact ⟨_, _, _, rfl⟩
  · split
    · exact ⟨_, _, _, rfl⟩
    · split
      · exact ⟨_, _, _, rfl⟩
      · exact ⟨_, _, _, rfl⟩
theorem PageOpens : aquiferlaw09_PageOpens.Pure := by
  intro a0 a1 _ _
  unfold aquiferlaw09_PageOpens.f
  rw [if_pos (by unfold mn; omega), if_pos (by unfold mn; omega)]
  generalize a1.extract 0 (mn (a1.size : Int) 600).toNat = s
  obtain ⟨k, b, e, h⟩ := opened_total a0 s
  have h1 : page_Open.f a0 s = some (k, b, e) := h
  have h2 : aquiferref09_Open.f a0 s = some (k, b, e) := h
  rw [h1, Option.bind_some, h2, Option.bind_some, if_pos rfl, if_pos rfl, if_pos rfl, Page.works_f, Option.bind_some]
end Go.Proofs.YthkcnkhhaiapfaaDoor.Pure
