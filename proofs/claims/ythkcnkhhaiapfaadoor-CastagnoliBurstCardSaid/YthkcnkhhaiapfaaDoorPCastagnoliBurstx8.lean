/- Functions that the law reaches, each as a Lean function with the proof that the Go code comes to its answers; laid by wip/hook.py, a program of this session, over the print of the kit. -/
import Derived.Test.YthkcnkhhaiapfaaDoorPCastagnoliBurstx0
namespace Go.Proofs.YthkcnkhhaiapfaaDoor.PCastagnoliBurst
open Go.RowKit Go.Proofs.YthkcnkhhaiapfaaDoorW.PrintWords Go.Proofs.YthkcnkhhaiapfaaDoorW.PrintLast Go.Proofs.YthkcnkhhaiapfaaDoorW.PrintMore
attribute [local go_sem] max2_int min2_int max_two min_two max_three min_three max_four min_four   -- for this text's walks alone
set_option linter.unusedVariables false
set_option linter.unusedSimpArgs false

/-! ### castagnoli_shift: function 41 -/
def castagnoli_shift.f (a0 : Int) (a1 : Int) : Option Int :=
  if 0 ≤ a0 ∧ a0 < 4294967296 ∧ 0 ≤ a1 ∧ a1 ≤ 1048576 then some ((Crc.shift a0.toNat a1.toNat : Nat) : Int) else none
theorem castagnoli_shift.calls (a0 : Int) (a1 : Int) (r : Int) (w : World) (h : castagnoli_shift.f a0 a1 = some r) :
    Calls Tryd.prog 41 #[.int .u32 a0, .int .i64 a1] w fun e w' => e = .returned (.int .u32 r) ∧ Below w.heap.size w w' := by
  unfold castagnoli_shift.f at h
  by_cases c0 : 0 ≤ a0 ∧ a0 < 4294967296 ∧ 0 ≤ a1 ∧ a1 ≤ 1048576
  case neg => rw [if_neg c0] at h; cases h
  rw [if_pos c0] at h
  obtain rfl := Option.some.inj h
  obtain ⟨h0, h1, h2, h3⟩ := c0
  obtain ⟨s, rfl⟩ := Int.eq_ofNat_of_zero_le h0
  obtain ⟨n, rfl⟩ := Int.eq_ofNat_of_zero_le h2
  exact shift_calls w s n (by omega) (by omega)


end Go.Proofs.YthkcnkhhaiapfaaDoor.PCastagnoliBurst
