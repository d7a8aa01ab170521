/- Functions that the law reaches, each as a Lean function with the proof that the Go code comes to its answers; laid by wip/hook.py, a program of this session, over the print of the kit. -/
import Derived.Test.YtealmnllljoolaaDoorPChunkCuttingx0
import Derived.Test.YtealmnllljoolaaDoorPChunkCuttingx23
namespace Go.Proofs.YtealmnllljoolaaDoor.PChunkCutting
open Go.RowKit Go.Proofs.YtealmnllljoolaaDoorW.PrintWords Go.Proofs.YtealmnllljoolaaDoorW.PrintLast Go.Proofs.YtealmnllljoolaaDoorW.PrintMore
attribute [local go_sem] max2_int min2_int max_two min_two max_three min_three max_four min_four   -- for this text's walks alone
set_option linter.unusedVariables false
set_option linter.unusedSimpArgs false

/-! ### chunk_Bounds: function 14 -/
def chunk_Bounds.f (a0 : Int) (a1 : Int) : Option (Int × Int) := if a0 > 4096 then (some (0, 0)) else (if a1 < 0 then (some (0, 0)) else ((chunk_Count.f a0).bind fun t102 => (if a1 ≥ t102 then (some (0, 0)) else (some (wrap64 (a1 * 64), mn (wrap64 ((wrap64 (a1 * 64)) + 64)) a0)))))
set_option maxHeartbeats 8000000 in
set_option maxRecDepth 100000 in
theorem chunk_Bounds.calls (a0 : Int) (a1 : Int) (r1 : Int) (r2 : Int) (w : World) (h : chunk_Bounds.f a0 a1 = some (r1, r2)) :
    Calls Tryd.prog 14 #[.int .i64 a0, .int .i64 a1] w fun e w' => e = .returned (.tuple #[.int .i64 r1, .int .i64 r2]) ∧ Below w.heap.size w w' := by
  have HB := Aside0.mk (Below.refl w.heap.size w)
  have H : (if a0 > 4096 then (some (0, 0)) else (if a1 < 0 then (some (0, 0)) else ((chunk_Count.f a0).bind fun t102 => (if a1 ≥ t102 then (some (0, 0)) else (some (wrap64 (a1 * 64), mn (wrap64 ((wrap64 (a1 * 64)) + 64)) a0)))))) = some (r1, r2) := h
  clear h
  by_cases c3 : a0 > 4096
  · rw [if_pos c3] at H
    have c3b0 : decide (4096 < a0) = true := decide_eq_true c3
    clear c3
    simp only [Option.some.injEq, Prod.mk.injEq] at H
    obtain ⟨rfl, rfl⟩ := H
    go_enter Tryd.func14, Tryd.ntmps14
    go_wp2
    go_ret2
    exact ⟨by first | rfl | (simp [errW_none, errW_some] <;> rfl) | (simp [*, errW_none, errW_some] <;> rfl), by repeat (first | (with_reducible first | exact HB.out | apply below_alloc | apply pw_below_drewN | apply below_drew1) | exact HB.out)⟩
  · rw [if_neg c3] at H
    have c3b0 : decide (4096 < a0) = false := decide_eq_false c3
    clear c3
    by_cases c4 : a1 < 0
    · rw [if_pos c4] at H
      have c4b0 : decide (a1 < 0) = true := decide_eq_true c4
      clear c4
      simp only [Option.some.injEq, Prod.mk.injEq] at H
      obtain ⟨rfl, rfl⟩ := H
      go_enter Tryd.func14, Tryd.ntmps14
      go_wp2
      go_ret2
      exact ⟨by first | rfl | (simp [errW_none, errW_some] <;> rfl) | (simp [*, errW_none, errW_some] <;> rfl), by repeat (first | (with_reducible first | exact HB.out | apply below_alloc | apply pw_below_drewN | apply below_drew1) | exact HB.out)⟩
    · rw [if_neg c4] at H
      have c4b0 : decide (a1 < 0) = false := decide_eq_false c4
      clear c4
      replace H := Option.bind_eq_some_iff.mp H
      obtain ⟨t102, A50, H⟩ := H
      replace H : (if a1 ≥ t102 then (some (0, 0)) else (some (wrap64 (a1 * 64), mn (wrap64 ((wrap64 (a1 * 64)) + 64)) a0))) = some (r1, r2) := H
      have A5 := Aside0.mk A50
      clear A50
      by_cases c6 : a1 ≥ t102
      · rw [if_pos c6] at H
        have c6b0 : decide (t102 ≤ a1) = true := decide_eq_true c6
        clear c6
        simp only [Option.some.injEq, Prod.mk.injEq] at H
        obtain ⟨rfl, rfl⟩ := H
        go_enter Tryd.func14, Tryd.ntmps14
        go_wp2_with (first | (go_at_call 16; (with_reducible refine (chunk_Count.calls a0 t102 _ A5.out).mono ?_); rintro e w' ⟨rfl, ⟨nd, rfl⟩⟩))
        go_ret2
        exact ⟨by first | rfl | (simp [errW_none, errW_some] <;> rfl) | (simp [*, errW_none, errW_some] <;> rfl), by repeat (first | (with_reducible first | exact HB.out | apply below_alloc | apply pw_below_drewN | apply below_drew1) | exact HB.out)⟩
      · rw [if_neg c6] at H
        have c6b0 : decide (t102 ≤ a1) = false := decide_eq_false c6
        clear c6
        obtain ⟨ji7, hji7⟩ : ∃ j_ : Int, (mn (wrap64 ((wrap64 (a1 * 64)) + 64)) a0) = j_ := ⟨_, rfl⟩
        replace H : (some (wrap64 (a1 * 64), ji7)) = some (r1, r2) := by first | (rw [hji7] at H; exact H) | (simp only [hji7] at H ⊢; exact H)
        (try rw [hji7] at A5)
        have hji7_ : (if a0 < (wrap64 ((wrap64 (a1 * 64)) + 64)) then a0 else (wrap64 ((wrap64 (a1 * 64)) + 64))) = ji7 := hji7
        (try (have hji7n_ := hji7_; simp only [Int.ofNat_lt] at hji7n_))
        simp only [Option.some.injEq, Prod.mk.injEq] at H
        obtain ⟨rfl, rfl⟩ := H
        go_enter Tryd.func14, Tryd.ntmps14
        go_wp2_with (first | (go_at_call 16; (with_reducible refine (chunk_Count.calls a0 t102 _ A5.out).mono ?_); rintro e w' ⟨rfl, ⟨nd, rfl⟩⟩))
        go_ret2
        exact ⟨by first | rfl | (simp [errW_none, errW_some] <;> rfl) | (simp only [← hji7]; first | rfl | (simp [errW_none, errW_some] <;> rfl)) | (simp [*, errW_none, errW_some] <;> rfl), by repeat (first | (with_reducible first | exact HB.out | apply below_alloc | apply pw_below_drewN | apply below_drew1) | exact HB.out)⟩

end Go.Proofs.YtealmnllljoolaaDoor.PChunkCutting
