/- The plain law of PageBack: what is sealed is opened as it was, by its own number alone. -/
import Derived.Test.YthkcnkhhaiapfaaDoorPPageAllx45
import Derived.Test.YthkcnkhhaiapfaaDoorPagePure
namespace Go.Proofs.YthkcnkhhaiapfaaDoor.Pure
open Go Go.RowKit Go.Proofs.YthkcnkhhaiapfaaDoor.PPageAll Go.Proofs.YthkcnkhhaiapfaaDoorW.PrintWords Go.Proofs.YthkcnkhhaiapfaaDoorW.PrintLast
theorem other_ne (n : Nat) (hn : n < 2147483648) : (n : Int) ≠ Go.bits .xor .i64 (n : Int) 1 := by
  have e : ∀ m : Nat, m < 4294967296 → (BitVec.ofInt 64 (m : Int)).toNat = m := fun m hm => by
    rw [BitVec.ofInt_natCast, BitVec.toNat_ofNat]
    exact Nat.mod_eq_of_lt (by omega)
  have h : Go.bits .xor .i64 (n : Int) 1 = ((n ^^^ 1 : Nat) : Int) := by
    show IntKind.i64.wrap ((BitVec.ofInt 64 (n : Int) ^^^ BitVec.ofInt 64 1).toNat : Int) = _
    have e1 := e 1 (by decide)
    rw [show ((1 : Nat) : Int) = 1 from rfl] at e1
    rw [BitVec.toNat_xor, e n (by omega), e1, IntKind.wrap_i64]
    have := Crc.xor_lt (a := n) (b := 1) (by omega) (by decide)
    omega
  rw [h]
  intro hx
  have hx : n = n ^^^ 1 := by omega
  have := congrArg (fun v => n ^^^ v) hx
  simp only [Nat.xor_self, Crc.xor_self_cancel] at this
  cases this
theorem PageBack : aquiferlaw09_PageBack.Pure := by
  intro a0 a1 a2 _ _ _
  unfold aquiferlaw09_PageBack.f
  rw [if_pos (by unfold mn; omega), if_pos (by unfold mn; omega)]
  have hs : (a2.extract 0 (mn (a2.size : Int) 500).toNat).size ≤ 500 := by
    rw [ByteArray.size_extract]
    unfold mn
    omega
  generalize a2.extract 0 (mn (a2.size : Int) 500).toNat = s at *
  by_cases h : a0 < 0 ∨ 2147483648 ≤ a0 ∨ a1 < 1 ∨ 255 < a1
  · have h1 : page_Seal.f a0 a1 s = some (⟨#[]⟩, 2) := by unfold page_Seal.f; rw [if_pos h]
    rw [h1, Option.bind_some, if_neg (by decide), if_pos (by decide +kernel)]
    by_cases c1 : a0 < 0
    · rw [if_pos c1, Page.works_f, Option.bind_some]
    rw [if_neg c1]
    by_cases c2 : a0 ≥ 2147483648
    · rw [if_pos c2, Page.works_f, Option.bind_some]
    rw [if_neg c2]
    by_cases c3 : a1 < 1
    · rw [if_pos c3, Page.works_f, Option.bind_some]
    rw [if_neg c3, if_pos (by omega), Page.works_f, Option.bind_some]
  · obtain ⟨id, rfl⟩ := Int.eq_ofNat_of_zero_le (show 0 ≤ a0 by omega)
    obtain ⟨kind, rfl⟩ := Int.eq_ofNat_of_zero_le (show 0 ≤ a1 by omega)
    have h1 := Page.seal_f (id := id) (kind := kind) (s := s) (by omega) (by omega) (by omega) hs
    have h2 := Page.opened_own (id := id) (kind := kind) (s := s) (by omega) (by omega) hs (by omega)
    have h3 := Page.opened_other (id := id) (kind := kind) (s := s) (by omega) hs (by omega) (other_ne id (by omega))
    unfold page_Open.f
    rw [h1, Option.bind_some, if_pos rfl, h2, Option.bind_some, h3, Option.bind_some, if_pos rfl, if_pos rfl, if_pos rfl, if_pos rfl, Page.works_f, Option.bind_some]
end Go.Proofs.YthkcnkhhaiapfaaDoor.Pure
