/- Functions that the law reaches, each as a Lean function with the proof that the Go code comes to its answers; laid by wip/hook.py, a program of this session, over the print of the kit. -/
import Derived.Test.YthkcnkhhaiapfaaDoorPCastagnoliCombinesx0
import Derived.Test.YthkcnkhhaiapfaaDoorPCastagnoliCombinesx3
import Derived.Test.YthkcnkhhaiapfaaDoorPCastagnoliCombinesx7
namespace Go.Proofs.YthkcnkhhaiapfaaDoor.PCastagnoliCombines
open Go.RowKit Go.Proofs.YthkcnkhhaiapfaaDoorW.PrintWords Go.Proofs.YthkcnkhhaiapfaaDoorW.PrintLast Go.Proofs.YthkcnkhhaiapfaaDoorW.PrintMore
attribute [local go_sem] max2_int min2_int max_two min_two max_three min_three max_four min_four   -- for this text's walks alone
set_option linter.unusedVariables false
set_option linter.unusedSimpArgs false

/-! ### castagnoli_Zeros: function 31 -/
def castagnoli_Zeros.f (a0 : Int) : Option (Int × Int) :=
  if 0 ≤ a0 ∧ a0 ≤ 1048576 then some (((4294967295 ^^^ Crc.shift 4294967295 a0.toNat : Nat) : Int), 0) else some (0, 2)
set_option maxHeartbeats 1000000 in
set_option maxRecDepth 100000 in
theorem castagnoli_Zeros.calls (a0 : Int) (r1 : Int) (r2 : Int) (w : World) (h : castagnoli_Zeros.f a0 = some (r1, r2)) :
    Calls Tryd.prog 31 #[.int .i64 a0] w fun e w' => e = .returned (.tuple #[.int .u32 r1, .int .i64 r2]) ∧ Below w.heap.size w w' := by
  unfold castagnoli_Zeros.f at h
  by_cases c0 : 0 ≤ a0 ∧ a0 ≤ 1048576
  · rw [if_pos c0] at h
    have hm : castagnoli_may.f a0 = some true := by
      unfold castagnoli_may.f
      rw [if_pos c0.1, decide_eq_true c0.2]
    obtain ⟨n, rfl⟩ := Int.eq_ofNat_of_zero_le c0.1
    have hn : n ≤ 1048576 := by omega
    simp only [Option.some.injEq, Prod.mk.injEq, Int.toNat_natCast] at h
    obtain ⟨rfl, rfl⟩ := h
    clear c0
    have hs : castagnoli_shift.f 4294967295 n = some ((Crc.shift 4294967295 n : Nat) : Int) := by
      unfold castagnoli_shift.f
      rw [if_pos (by omega)]
      rfl
    have e1 := Crc.walk_not (Crc.shift_lt (show 4294967295 < 4294967296 by decide) n)
    obtain ⟨x, hx⟩ : ∃ x, Crc.shift 4294967295 n = x := ⟨_, rfl⟩
    rw [hx] at e1 hs ⊢
    have HM := Aside0.mk hm
    have HS := Aside0.mk hs
    clear hm hs hx
    go_enter Tryd.func31, Tryd.ntmps31
    go_wp2_with (first
      | (go_at_call 40; (with_reducible refine (castagnoli_may.calls n true _ HM.out).mono ?_); rintro e w' ⟨rfl, ⟨nd, rfl⟩⟩)
      | (go_at_call 41; (with_reducible refine (castagnoli_shift.calls 4294967295 n x _ HS.out).mono ?_); rintro e w1 ⟨rfl, hb⟩))
    go_ret2
    exact ⟨rfl, below_then (pw_below_drewN (Below.refl _ _) nd) (Nat.le_refl _) hb⟩
  · rw [if_neg c0] at h
    simp only [Option.some.injEq, Prod.mk.injEq] at h
    obtain ⟨rfl, rfl⟩ := h
    have hm : castagnoli_may.f a0 = some false := by
      unfold castagnoli_may.f
      by_cases h0 : a0 ≥ 0
      · rw [if_pos h0, decide_eq_false (by omega)]
      · rw [if_neg h0]
    have HM := Aside0.mk hm
    clear hm c0
    go_enter Tryd.func31, Tryd.ntmps31
    go_wp2_with (first
      | (go_at_call 40; (with_reducible refine (castagnoli_may.calls a0 false _ HM.out).mono ?_); rintro e w' ⟨rfl, ⟨nd, rfl⟩⟩))
    go_ret2
    exact ⟨rfl, pw_below_drewN (Below.refl _ _) nd⟩


end Go.Proofs.YthkcnkhhaiapfaaDoor.PCastagnoliCombines
