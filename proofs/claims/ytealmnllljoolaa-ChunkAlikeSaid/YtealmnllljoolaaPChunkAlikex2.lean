/- Functions that the law reaches, each as a Lean function with the proof that the Go code comes to its answers; laid by wip/hook.py, a program of this session, over the print of the kit. -/
import Derived.Test.YtealmnllljoolaaPChunkAlikex0
import Derived.Test.YtealmnllljoolaaPChunkAlikex1
namespace Go.Proofs.Ytealmnllljoolaa.PChunkAlike
open Go.RowKit Go.Proofs.YtealmnllljoolaaW.PrintWords Go.Proofs.YtealmnllljoolaaW.PrintLast Go.Proofs.YtealmnllljoolaaW.PrintMore
attribute [local go_sem] max2_int min2_int max_two min_two max_three min_three max_four min_four   -- for this text's walks alone
set_option linter.unusedVariables false
set_option linter.unusedSimpArgs false

/-! ### aquiferlaw15_ChunkAlike: function 4 -/
mutual
def aquiferlaw15_ChunkAlike.j0 : Nat → ByteArray → Int → Int → Bool → Option (Bool)
  | 0, _, _, _, _ => none
  | k + 1, x0, x1, x2, x30 => if x30 = true then (some false) else (if (x0.size : Int) = 0 then ((aquiferlaw15_works.f).bind fun t128 => (some t128)) else (if 0 ≤ (Int.tmod (wrap64 ((Int.tmod x1 (x0.size : Int)) + (x0.size : Int))) (x0.size : Int)) then (if (Int.tmod (wrap64 ((Int.tmod x1 (x0.size : Int)) + (x0.size : Int))) (x0.size : Int)) ≤ (x0.size : Int) then (if (Int.tmod (wrap64 ((Int.tmod x1 (x0.size : Int)) + (x0.size : Int))) (x0.size : Int)) < (x0.size : Int) then ((some (([Go.bits .xor .u8 (bt x0 (Int.tmod (wrap64 ((Int.tmod x1 (x0.size : Int)) + (x0.size : Int))) (x0.size : Int))) (Go.bits .or .u8 x2 1)] : List Int) : List Int)).bind fun y129 => (if (x0.extract 0 ((Int.tmod (wrap64 ((Int.tmod x1 (x0.size : Int)) + (x0.size : Int))) (x0.size : Int)) : Int).toNat).size + (strOfNums y129).size ≤ 9223372036854775807 then (if 0 ≤ (wrap64 ((Int.tmod (wrap64 ((Int.tmod x1 (x0.size : Int)) + (x0.size : Int))) (x0.size : Int)) + 1)) then (if (wrap64 ((Int.tmod (wrap64 ((Int.tmod x1 (x0.size : Int)) + (x0.size : Int))) (x0.size : Int)) + 1)) ≤ (x0.size : Int) then (if ((x0.extract 0 ((Int.tmod (wrap64 ((Int.tmod x1 (x0.size : Int)) + (x0.size : Int))) (x0.size : Int)) : Int).toNat) ++ (strOfNums y129)).size + (x0.extract ((wrap64 ((Int.tmod (wrap64 ((Int.tmod x1 (x0.size : Int)) + (x0.size : Int))) (x0.size : Int)) + 1)) : Int).toNat x0.size).size ≤ 9223372036854775807 then ((chunk_Same.f k x0 (((x0.extract 0 ((Int.tmod (wrap64 ((Int.tmod x1 (x0.size : Int)) + (x0.size : Int))) (x0.size : Int)) : Int).toNat) ++ (strOfNums y129)) ++ (x0.extract ((wrap64 ((Int.tmod (wrap64 ((Int.tmod x1 (x0.size : Int)) + (x0.size : Int))) (x0.size : Int)) + 1)) : Int).toNat x0.size))).bind fun t132 => (aquiferlaw15_ChunkAlike.l0 k x0 (Int.tmod (wrap64 ((Int.tmod x1 (x0.size : Int)) + (x0.size : Int))) (x0.size : Int)) (((x0.extract 0 ((Int.tmod (wrap64 ((Int.tmod x1 (x0.size : Int)) + (x0.size : Int))) (x0.size : Int)) : Int).toNat) ++ (strOfNums y129)) ++ (x0.extract ((wrap64 ((Int.tmod (wrap64 ((Int.tmod x1 (x0.size : Int)) + (x0.size : Int))) (x0.size : Int)) + 1)) : Int).toNat x0.size)) t132 t132 (t132.length : Int) 0)) else (none)) else (none)) else (none)) else (none))) else (none)) else (none)) else (none)))
def aquiferlaw15_ChunkAlike.l0 : Nat → ByteArray → Int → ByteArray → List Int → List Int → Int → Int → Option (Bool)
  | 0, _, _, _, _, _, _, _ => none
  | k + 1, x0, x7, x8, x9, x65, x66, x67 => if x67 < x66 then (if 0 ≤ x67 then (if x67 < (x65.length : Int) then (if (rd x65 x67) = (wrap64 (Int.tdiv x7 64)) then (some false) else (aquiferlaw15_ChunkAlike.l0 k x0 x7 x8 x9 x65 x66 (wrap64 (x67 + 1)))) else (none)) else (none)) else ((chunk_Count.f (x0.size : Int)).bind fun t136 => (if (x9.length : Int) = (wrap64 (t136 - 1)) then ((chunk_Same.f k x8 x0).bind fun t137 => ((aquiferref15_SameNums.f k x9 t137).bind fun t140 => (if t140 = true then ((aquiferlaw15_works.f).bind fun t141 => (some t141)) else (some false)))) else (some false)))
end
def aquiferlaw15_ChunkAlike.f (k : Nat) (a0 : ByteArray) (a1 : Int) (a2 : Int) : Option (Bool) := if 0 ≤ (mn (a0.size : Int) 4096) then (if (mn (a0.size : Int) 4096) ≤ (a0.size : Int) then ((chunk_Same.f k (a0.extract 0 ((mn (a0.size : Int) 4096) : Int).toNat) (a0.extract 0 ((mn (a0.size : Int) 4096) : Int).toNat)).bind fun t121 => ((chunk_Count.f ((a0.extract 0 ((mn (a0.size : Int) 4096) : Int).toNat).size : Int)).bind fun t124 => (if (t121.length : Int) = t124 then ((chunk_Same.f k (a0.extract 0 ((mn (a0.size : Int) 4096) : Int).toNat) (⟨#[]⟩ : ByteArray)).bind fun t125 => (aquiferlaw15_ChunkAlike.j0 k (a0.extract 0 ((mn (a0.size : Int) 4096) : Int).toNat) a1 a2 ((t125.length : Int) != 0))) else (aquiferlaw15_ChunkAlike.j0 k (a0.extract 0 ((mn (a0.size : Int) 4096) : Int).toNat) a1 a2 true)))) else (none)) else (none)
theorem aquiferlaw15_ChunkAlike.mono_l : ∀ k, (∀ y0 y1 y2 y3, LeO (aquiferlaw15_ChunkAlike.j0 k y0 y1 y2 y3) (aquiferlaw15_ChunkAlike.j0 (k + 1) y0 y1 y2 y3)) ∧ (∀ y0 y1 y2 y3 y4 y5 y6, LeO (aquiferlaw15_ChunkAlike.l0 k y0 y1 y2 y3 y4 y5 y6) (aquiferlaw15_ChunkAlike.l0 (k + 1) y0 y1 y2 y3 y4 y5 y6))
  | 0 => ⟨fun _ _ _ _ r h => by simp [aquiferlaw15_ChunkAlike.j0] at h, fun _ _ _ _ _ _ _ r h => by simp [aquiferlaw15_ChunkAlike.l0] at h⟩
  | k + 1 => by
    obtain ⟨ih0, ih1⟩ := aquiferlaw15_ChunkAlike.mono_l k
    refine ⟨?_, ?_⟩
    · intro y0 y1 y2 y3
      unfold aquiferlaw15_ChunkAlike.j0
      repeat' first
      | (with_reducible exact ih0 _ _ _ _)
      | (with_reducible exact ih1 _ _ _ _ _ _ _)
      | (with_reducible exact aquiferref15_SameNums.mono _ _ _)
      | (with_reducible exact chunk_Same.mono _ _ _)
      | (with_reducible exact LeO.refl _)
      | (with_reducible exact LeO.none _)
      | (with_reducible refine LeO.ite ?_ ?_)
      | (with_reducible refine LeO.bind ?_ (fun _ => ?_))
      | exact ih0 _ _ _ _
      | exact ih1 _ _ _ _ _ _ _
      | exact aquiferref15_SameNums.mono _ _ _
      | exact chunk_Same.mono _ _ _
      | exact LeO.none _
      | refine LeO.ite ?_ ?_
      | refine LeO.bind ?_ (fun _ => ?_)
    · intro y0 y1 y2 y3 y4 y5 y6
      unfold aquiferlaw15_ChunkAlike.l0
      repeat' first
      | (with_reducible exact ih0 _ _ _ _)
      | (with_reducible exact ih1 _ _ _ _ _ _ _)
      | (with_reducible exact aquiferref15_SameNums.mono _ _ _)
      | (with_reducible exact chunk_Same.mono _ _ _)
      | (with_reducible exact LeO.refl _)
      | (with_reducible exact LeO.none _)
      | (with_reducible refine LeO.ite ?_ ?_)
      | (with_reducible refine LeO.bind ?_ (fun _ => ?_))
      | exact ih0 _ _ _ _
      | exact ih1 _ _ _ _ _ _ _
      | exact aquiferref15_SameNums.mono _ _ _
      | exact chunk_Same.mono _ _ _
      | exact LeO.none _
      | refine LeO.ite ?_ ?_
      | refine LeO.bind ?_ (fun _ => ?_)
theorem aquiferlaw15_ChunkAlike.mono : ∀ a0 a1 a2 k, LeO (aquiferlaw15_ChunkAlike.f k a0 a1 a2) (aquiferlaw15_ChunkAlike.f (k + 1) a0 a1 a2) := by
  intro a0 a1 a2 k
  obtain ⟨ih0, ih1⟩ := aquiferlaw15_ChunkAlike.mono_l k
  unfold aquiferlaw15_ChunkAlike.f
  repeat' first
      | (with_reducible exact ih0 _ _ _ _)
      | (with_reducible exact ih1 _ _ _ _ _ _ _)
      | (with_reducible exact aquiferref15_SameNums.mono _ _ _)
      | (with_reducible exact chunk_Same.mono _ _ _)
      | (with_reducible exact LeO.refl _)
      | (with_reducible exact LeO.none _)
      | (with_reducible refine LeO.ite ?_ ?_)
      | (with_reducible refine LeO.bind ?_ (fun _ => ?_))
      | exact ih0 _ _ _ _
      | exact ih1 _ _ _ _ _ _ _
      | exact aquiferref15_SameNums.mono _ _ _
      | exact chunk_Same.mono _ _ _
      | exact LeO.none _
      | refine LeO.ite ?_ ?_
      | refine LeO.bind ?_ (fun _ => ?_)
def aquiferlaw15_ChunkAlike.T7 : Bool × List (List Nat × List Nat) := (true, [([], []), ([], []), ([0, 1], [0, 1]), ([], []), ([], []), ([3, 4], [3, 4]), ([], []), ([6], [6]), ([5, 7], [5, 7]), ([8], [8]), ([9], [9]), ([2, 10], [2, 10]), ([], []), ([], []), ([13], [13]), ([12, 14], [12, 14]), ([11, 15], [11, 15]), ([16, 0, 1, 2, 3, 4, 5, 6, 7, 8, 9, 10, 11, 12, 13, 14, 15, 16], [16])])
def aquiferlaw15_ChunkAlike.B7 : List Nat := [0, 0, 3, 0, 0, 24, 0, 64, 248, 504, 1016, 2047, 0, 0, 8192, 28672, 65535, 131071]
theorem aquiferlaw15_ChunkAlike.tab7 : rtab .any (opsOf Try.f4 7) = aquiferlaw15_ChunkAlike.T7 := by kernel_rfl
theorem aquiferlaw15_ChunkAlike.bits7 : waitsOk aquiferlaw15_ChunkAlike.T7.2 aquiferlaw15_ChunkAlike.B7 = true := by kernel_rfl
set_option maxHeartbeats 8000000 in
set_option maxRecDepth 100000 in
theorem aquiferlaw15_ChunkAlike.calls (k : Nat) (a0 : ByteArray) (a1 : Int) (a2 : Int) (r : Bool) (w : World) (h : aquiferlaw15_ChunkAlike.f k a0 a1 a2 = some r) :
    Calls Try.prog 4 #[.string a0, .int .i64 a1, .int .u8 a2] w fun e w' => e = .returned (.bool r) ∧ Below w.heap.size w w' := by
  have HB := Aside0.mk (Below.refl w.heap.size w)
  have H : (if 0 ≤ (mn (a0.size : Int) 4096) then (if (mn (a0.size : Int) 4096) ≤ (a0.size : Int) then ((chunk_Same.f k (a0.extract 0 ((mn (a0.size : Int) 4096) : Int).toNat) (a0.extract 0 ((mn (a0.size : Int) 4096) : Int).toNat)).bind fun t121 => ((chunk_Count.f ((a0.extract 0 ((mn (a0.size : Int) 4096) : Int).toNat).size : Int)).bind fun t124 => (if (t121.length : Int) = t124 then ((chunk_Same.f k (a0.extract 0 ((mn (a0.size : Int) 4096) : Int).toNat) (⟨#[]⟩ : ByteArray)).bind fun t125 => (aquiferlaw15_ChunkAlike.j0 k (a0.extract 0 ((mn (a0.size : Int) 4096) : Int).toNat) a1 a2 ((t125.length : Int) != 0))) else (aquiferlaw15_ChunkAlike.j0 k (a0.extract 0 ((mn (a0.size : Int) 4096) : Int).toNat) a1 a2 true)))) else (none)) else (none)) = some r := h
  clear h
  obtain ⟨ji4, hji4⟩ : ∃ j_ : Int, (mn (a0.size : Int) 4096) = j_ := ⟨_, rfl⟩
  replace H : (if 0 ≤ (ji4) then (if (ji4) ≤ (a0.size : Int) then ((chunk_Same.f k (a0.extract 0 ((ji4) : Int).toNat) (a0.extract 0 ((ji4) : Int).toNat)).bind fun t121 => ((chunk_Count.f ((a0.extract 0 ((ji4) : Int).toNat).size : Int)).bind fun t124 => (if (t121.length : Int) = t124 then ((chunk_Same.f k (a0.extract 0 ((ji4) : Int).toNat) (⟨#[]⟩ : ByteArray)).bind fun t125 => (aquiferlaw15_ChunkAlike.j0 k (a0.extract 0 ((ji4) : Int).toNat) a1 a2 ((t125.length : Int) != 0))) else (aquiferlaw15_ChunkAlike.j0 k (a0.extract 0 ((ji4) : Int).toNat) a1 a2 true)))) else (none)) else (none)) = some r := by first | (rw [hji4] at H; exact H) | (simp only [hji4] at H ⊢; exact H)
  (try (have hji4h : ji4 ≤ 4096 := by (rw [← hji4]; unfold mn; (repeat' split) <;> omega)))
  (try (have hji4g : ji4 ≤ 64 := by omega))
  (try (have hji4l : 0 ≤ ji4 := by (rw [← hji4]; unfold mn; (repeat' split) <;> omega)))
  (try (have hji4m : 0 ≤ ji4 := by omega))
  have hji4_ : (if 4096 < (a0.size : Int) then 4096 else (a0.size : Int)) = ji4 := hji4
  (try (have hji4n_ := hji4_; simp only [Int.ofNat_lt] at hji4n_))
  by_cases c5 : 0 ≤ (ji4)
  · rw [if_pos c5] at H
    have c5b0 := eq_true c5
    have c5b1 : decide (0 ≤ (ji4)) = true := decide_eq_true c5
    clear c5
    by_cases c6 : (ji4) ≤ (a0.size : Int)
    · rw [if_pos c6] at H
      have c6b0 := eq_true c6
      have c6b1 : decide ((ji4) ≤ (a0.size : Int)) = true := decide_eq_true c6
      clear c6
      obtain ⟨S_a0, hS_a0⟩ : ∃ z_ : ByteArray, a0.extract 0 (ji4 : Int).toNat = z_ := ⟨_, rfl⟩
      rw [hS_a0] at H
      have hS_a0l : ∀ W_ : World, (Instr.slice 9 (.string a0) none (some (.int .i64 ji4)) none).run Try.prog W_ = .ok (.string S_a0) W_ := fun W_ => by rw [run_slice_string_h W_ 9 a0 Try.underlying9 .i64 ji4 (by first | omega | exact of_eq_true ‹(0 ≤ ji4) = True›) (by first | omega | exact of_eq_true ‹(ji4 ≤ (a0.size : Int)) = True›), hS_a0]
      have hS_a04 : S_a0.size ≤ 4096 := by rw [← hS_a0]; simp; omega
      have hS_a0_ := Aside0.mk hS_a0
      clear hS_a0
      have HC7 := Aside0.mk H
      clear H
      go_enter Try.func4, Try.ntmps4
      go_upto_region 2 with (fail)
      go_cut [30] (fun v30 wc => ∃ (kq : Nat) (x30_6 : Bool), v30 = .bool x30_6 ∧ Aside0 (aquiferlaw15_ChunkAlike.j0 kq S_a0 a1 a2 x30_6 = some r) ∧ Aside0 (kq ≤ k) ∧ Aside0 (Below w.heap.size w wc))
      case first =>
        have H := HC7.out
        clear HC7
        replace H := Option.bind_eq_some_iff.mp H
        obtain ⟨t121, A80, H⟩ := H
        replace H : ((chunk_Count.f (S_a0.size : Int)).bind fun t124 => (if (t121.length : Int) = t124 then ((chunk_Same.f k S_a0 (⟨#[]⟩ : ByteArray)).bind fun t125 => (aquiferlaw15_ChunkAlike.j0 k S_a0 a1 a2 ((t125.length : Int) != 0))) else (aquiferlaw15_ChunkAlike.j0 k S_a0 a1 a2 true))) = some r := H
        have A8 := Aside0.mk A80
        clear A80
        replace H := Option.bind_eq_some_iff.mp H
        obtain ⟨t124, A90, H⟩ := H
        replace H : (if (t121.length : Int) = t124 then ((chunk_Same.f k S_a0 (⟨#[]⟩ : ByteArray)).bind fun t125 => (aquiferlaw15_ChunkAlike.j0 k S_a0 a1 a2 ((t125.length : Int) != 0))) else (aquiferlaw15_ChunkAlike.j0 k S_a0 a1 a2 true)) = some r := H
        have A9 := Aside0.mk A90
        clear A90
        by_cases c10 : (t121.length : Int) = t124
        · rw [if_pos c10] at H
          have c10b0 : ((t121.length : Int) == t124) = true := beq_iff_eq.mpr c10
          have c10b1 : ((t121.length : Int) != t124) = false := bne_eq_false_iff_eq.mpr c10
          clear c10
          (first | rw [c10b0] | (simp only [i64_w, i32_w]; rw [c10b0]) | skip)
          replace H := Option.bind_eq_some_iff.mp H
          obtain ⟨t125, A110, H⟩ := H
          replace H : (aquiferlaw15_ChunkAlike.j0 k S_a0 a1 a2 ((t125.length : Int) != 0)) = some r := H
          have A11 := Aside0.mk A110
          clear A110
          have H' := Aside0.mk H
          clear H
          go_wp2_with (first | ((with_reducible refine gate_callee (f := 12) rfl ?_); refine goesL_ (some 19) rfl rfl Try.func12 (by kernel_rfl) rfl #[.string S_a0, .string S_a0] rfl (by (try simp only [List.map_toArray, List.map_cons, List.map_nil]); first | done | (simp only [hji4]; rfl) | rfl | (simp only [List.length_drop, List.length_take]; rfl)) ?_; (with_reducible refine (chunk_Same.calls k S_a0 S_a0 t121 _ A8.out).mono ?_); rintro e w12 ⟨v122, rfl, ho0, hb⟩; refine ⟨_, rfl, ?_⟩; have n0_ := Aside0.mk (Kd.R_lower ho0 (below_size (by repeat (first | (with_reducible first | exact HB.out | apply below_alloc | apply pw_below_drewN | apply below_drew1) | exact HB.out)))); have n1_ := Aside0.mk (below_step (by repeat (first | (with_reducible first | exact HB.out | apply below_alloc | apply pw_below_drewN | apply below_drew1) | exact HB.out)) hb); clear HB; have HO123 := n0_; have HB := n1_; clear n0_ n1_; (try clear hb); (try clear hb2); (try clear hk); (try clear hi); (try clear ho0); obtain ⟨Ao13, co13, eo13⟩ := Kd.R_slice HO123.out; subst eo13) | ((with_reducible refine gate_callee (f := 13) rfl ?_); refine goesL_ (some 23) rfl rfl Try.func13 (by kernel_rfl) rfl #[.int .i64 (S_a0.size : Int)] rfl (by (try simp only [List.map_toArray, List.map_cons, List.map_nil]); first | done | (simp only [hji4]; rfl) | rfl | (simp only [List.length_drop, List.length_take]; rfl)) ?_; (with_reducible refine (chunk_Count.calls (S_a0.size : Int) t124 _ A9.out).mono ?_); rintro e w' ⟨rfl, ⟨nd, rfl⟩⟩; refine ⟨_, rfl, ?_⟩) | (go_at_call 12; (with_reducible refine (chunk_Same.calls k S_a0 (⟨#[]⟩ : ByteArray) t125 _ A11.out).mono ?_); rintro e w14 ⟨v126, rfl, ho0, hb⟩; have n0_ := Aside0.mk (Kd.R_elder' (by (with_reducible repeat (first | apply Kd.R_alloc | apply Kd.R_drewN | apply Kd.R_drew)); exact HO123.out) (Kd.R_base ho0) hb); have n1_ := Aside0.mk (Kd.R_lower (Kd.R_new' ho0 (Kd.R_lt (by (with_reducible repeat (first | apply Kd.R_alloc | apply Kd.R_drewN | apply Kd.R_drew)); exact HO123.out))) (below_size (by repeat (first | (with_reducible first | exact HB.out | apply below_alloc | apply pw_below_drewN | apply below_drew1) | exact HB.out)))); have n2_ := Aside0.mk (below_step (by repeat (first | (with_reducible first | exact HB.out | apply below_alloc | apply pw_below_drewN | apply below_drew1) | exact HB.out)) hb); clear HO123; clear HB; have HO123 := n0_; have HO127 := n1_; have HB := n2_; clear n0_ n1_ n2_; (try clear hb); (try clear hb2); (try clear hk); (try clear hi); (try clear ho0); obtain ⟨Ao15, co15, eo15⟩ := Kd.R_slice HO127.out; subst eo15))
          go_meet
          case rel => exact ⟨_, (((t125.length : Int) != 0)), (by first | rfl | (simp; done) | (simp [*]; done)), H', ⟨by first | omega | exact Nat.le_refl _⟩, ⟨by repeat (first | (with_reducible first | exact HB.out | apply below_alloc | apply pw_below_drewN | apply below_drew1) | exact HB.out)⟩⟩
        · rw [if_neg c10] at H
          have c10b0 : ((t121.length : Int) == t124) = false := beq_eq_false_iff_ne.mpr c10
          have c10b1 : ((t121.length : Int) != t124) = true := bne_iff_ne.mpr c10
          (first | rw [c10b0] | (simp only [i64_w, i32_w]; rw [c10b0]) | skip)
          have H' := Aside0.mk H
          clear H
          go_wp2_with (first | ((with_reducible refine gate_callee (f := 12) rfl ?_); refine goesL_ (some 19) rfl rfl Try.func12 (by kernel_rfl) rfl #[.string S_a0, .string S_a0] rfl (by (try simp only [List.map_toArray, List.map_cons, List.map_nil]); first | done | (simp only [hji4]; rfl) | rfl | (simp only [List.length_drop, List.length_take]; rfl)) ?_; (with_reducible refine (chunk_Same.calls k S_a0 S_a0 t121 _ A8.out).mono ?_); rintro e w16 ⟨v122, rfl, ho0, hb⟩; refine ⟨_, rfl, ?_⟩; have n0_ := Aside0.mk (Kd.R_lower ho0 (below_size (by repeat (first | (with_reducible first | exact HB.out | apply below_alloc | apply pw_below_drewN | apply below_drew1) | exact HB.out)))); have n1_ := Aside0.mk (below_step (by repeat (first | (with_reducible first | exact HB.out | apply below_alloc | apply pw_below_drewN | apply below_drew1) | exact HB.out)) hb); clear HB; have HO123 := n0_; have HB := n1_; clear n0_ n1_; (try clear hb); (try clear hb2); (try clear hk); (try clear hi); (try clear ho0); obtain ⟨Ao17, co17, eo17⟩ := Kd.R_slice HO123.out; subst eo17) | ((with_reducible refine gate_callee (f := 13) rfl ?_); refine goesL_ (some 23) rfl rfl Try.func13 (by kernel_rfl) rfl #[.int .i64 (S_a0.size : Int)] rfl (by (try simp only [List.map_toArray, List.map_cons, List.map_nil]); first | done | (simp only [hji4]; rfl) | rfl | (simp only [List.length_drop, List.length_take]; rfl)) ?_; (with_reducible refine (chunk_Count.calls (S_a0.size : Int) t124 _ A9.out).mono ?_); rintro e w' ⟨rfl, ⟨nd, rfl⟩⟩; refine ⟨_, rfl, ?_⟩))
          go_meet
          case rel => exact ⟨_, (true), (by first | rfl | (simp; done) | (simp [*]; done)), H', ⟨by first | omega | exact Nat.le_refl _⟩, ⟨by repeat (first | (with_reducible first | exact HB.out | apply below_alloc | apply pw_below_drewN | apply below_drew1) | exact HB.out)⟩⟩
      case rest =>
        clear HC7
        try clear c1
        try clear p2
        try clear c4
        try clear c5
        try clear c5b0
        try clear c5b1
        try clear c6
        try clear c6b0
        try clear c6b1
        try clear c10
        try clear c10b0
        try clear c10b1
        try clear c12
        try clear c13
        obtain ⟨kq, x30_6, rfl, HA, HJ6, HB⟩ := hcut
        cases kq with
        | zero => exact absurd HA.out (by simp [aquiferlaw15_ChunkAlike.j0])
        | succ kj6 =>
          have H := HA.out
          clear HA
          simp only [aquiferlaw15_ChunkAlike.j0] at H
          by_cases c18 : x30_6 = true
          · subst c18
            have H1 : (some false) = some r := by rw [if_pos rfl] at H; exact H
            clear H
            have H := H1
            clear H1
            obtain rfl := Option.some.inj H
            go_wp2
            go_ret
            exact ⟨by first | rfl | (simp [errW_none, errW_some] <;> rfl) | (simp only [← hji4]; first | rfl | (simp [errW_none, errW_some] <;> rfl)) | (simp [*, errW_none, errW_some] <;> rfl), by repeat (first | (with_reducible first | exact HB.out | apply below_alloc | apply pw_below_drewN | apply below_drew1) | exact HB.out)⟩
          · replace c18 := Bool.eq_false_iff.mpr c18
            subst c18
            have H1 : (if (S_a0.size : Int) = 0 then ((aquiferlaw15_works.f).bind fun t128 => (some t128)) else (if 0 ≤ (Int.tmod (wrap64 ((Int.tmod a1 (S_a0.size : Int)) + (S_a0.size : Int))) (S_a0.size : Int)) then (if (Int.tmod (wrap64 ((Int.tmod a1 (S_a0.size : Int)) + (S_a0.size : Int))) (S_a0.size : Int)) ≤ (S_a0.size : Int) then (if (Int.tmod (wrap64 ((Int.tmod a1 (S_a0.size : Int)) + (S_a0.size : Int))) (S_a0.size : Int)) < (S_a0.size : Int) then ((some (([Go.bits .xor .u8 (bt S_a0 (Int.tmod (wrap64 ((Int.tmod a1 (S_a0.size : Int)) + (S_a0.size : Int))) (S_a0.size : Int))) (Go.bits .or .u8 a2 1)] : List Int) : List Int)).bind fun y129 => (if (S_a0.extract 0 ((Int.tmod (wrap64 ((Int.tmod a1 (S_a0.size : Int)) + (S_a0.size : Int))) (S_a0.size : Int)) : Int).toNat).size + (strOfNums y129).size ≤ 9223372036854775807 then (if 0 ≤ (wrap64 ((Int.tmod (wrap64 ((Int.tmod a1 (S_a0.size : Int)) + (S_a0.size : Int))) (S_a0.size : Int)) + 1)) then (if (wrap64 ((Int.tmod (wrap64 ((Int.tmod a1 (S_a0.size : Int)) + (S_a0.size : Int))) (S_a0.size : Int)) + 1)) ≤ (S_a0.size : Int) then (if ((S_a0.extract 0 ((Int.tmod (wrap64 ((Int.tmod a1 (S_a0.size : Int)) + (S_a0.size : Int))) (S_a0.size : Int)) : Int).toNat) ++ (strOfNums y129)).size + (S_a0.extract ((wrap64 ((Int.tmod (wrap64 ((Int.tmod a1 (S_a0.size : Int)) + (S_a0.size : Int))) (S_a0.size : Int)) + 1)) : Int).toNat S_a0.size).size ≤ 9223372036854775807 then ((chunk_Same.f kj6 S_a0 (((S_a0.extract 0 ((Int.tmod (wrap64 ((Int.tmod a1 (S_a0.size : Int)) + (S_a0.size : Int))) (S_a0.size : Int)) : Int).toNat) ++ (strOfNums y129)) ++ (S_a0.extract ((wrap64 ((Int.tmod (wrap64 ((Int.tmod a1 (S_a0.size : Int)) + (S_a0.size : Int))) (S_a0.size : Int)) + 1)) : Int).toNat S_a0.size))).bind fun t132 => (aquiferlaw15_ChunkAlike.l0 kj6 S_a0 (Int.tmod (wrap64 ((Int.tmod a1 (S_a0.size : Int)) + (S_a0.size : Int))) (S_a0.size : Int)) (((S_a0.extract 0 ((Int.tmod (wrap64 ((Int.tmod a1 (S_a0.size : Int)) + (S_a0.size : Int))) (S_a0.size : Int)) : Int).toNat) ++ (strOfNums y129)) ++ (S_a0.extract ((wrap64 ((Int.tmod (wrap64 ((Int.tmod a1 (S_a0.size : Int)) + (S_a0.size : Int))) (S_a0.size : Int)) + 1)) : Int).toNat S_a0.size)) t132 t132 (t132.length : Int) 0)) else (none)) else (none)) else (none)) else (none))) else (none)) else (none)) else (none))) = some r := by rw [if_neg (show ¬ (false = true) by decide)] at H; exact H
            clear H
            have H := H1
            clear H1
            by_cases c19 : (S_a0.size : Int) = 0
            · rw [if_pos c19] at H
              have c19b0 : ((S_a0.size : Int) == 0) = true := beq_iff_eq.mpr c19
              have c19b1 : ((S_a0.size : Int) != 0) = false := bne_eq_false_iff_eq.mpr c19
              clear c19
              replace H := Option.bind_eq_some_iff.mp H
              obtain ⟨t128, A200, H⟩ := H
              replace H : (some t128) = some r := H
              have A20 := Aside0.mk A200
              clear A200
              obtain rfl := Option.some.inj H
              go_wp2_with (first | ((with_reducible refine gate_callee (f := 10) rfl ?_); refine goesL_ (some 34) rfl rfl Try.func10 (by kernel_rfl) rfl #[] rfl (by (try simp only [List.map_toArray, List.map_cons, List.map_nil]); first | done | rfl | (simp only [List.length_drop, List.length_take]; rfl)) ?_; (with_reducible refine (aquiferlaw15_works.calls  t128 _ A20.out).mono ?_); rintro e w21 ⟨rfl, hb⟩; refine ⟨_, rfl, ?_⟩; have n0_ := Aside0.mk (below_step (by repeat (first | (with_reducible first | exact HB.out | apply below_alloc | apply pw_below_drewN | apply below_drew1) | exact HB.out)) hb); clear HB; have HB := n0_; clear n0_; (try clear hb); (try clear hb2); (try clear hk); (try clear hi)))
              go_ret
              exact ⟨by first | rfl | (simp [errW_none, errW_some] <;> rfl) | (simp only [← hji4]; first | rfl | (simp [errW_none, errW_some] <;> rfl)) | (simp [*, errW_none, errW_some] <;> rfl), by repeat (first | (with_reducible first | exact HB.out | apply below_alloc | apply pw_below_drewN | apply below_drew1) | exact HB.out)⟩
            · rw [if_neg c19] at H
              have c19b0 : ((S_a0.size : Int) == 0) = false := beq_eq_false_iff_ne.mpr c19
              have c19b1 : ((S_a0.size : Int) != 0) = true := bne_iff_ne.mpr c19
              obtain ⟨ji22, hji22⟩ : ∃ j_ : Int, (Int.tmod (wrap64 ((Int.tmod a1 (S_a0.size : Int)) + (S_a0.size : Int))) (S_a0.size : Int)) = j_ := ⟨_, rfl⟩
              replace H : (if 0 ≤ (ji22) then (if (ji22) ≤ (S_a0.size : Int) then (if (ji22) < (S_a0.size : Int) then ((some (([Go.bits .xor .u8 (bt S_a0 (ji22)) (Go.bits .or .u8 a2 1)] : List Int) : List Int)).bind fun y129 => (if (S_a0.extract 0 ((ji22) : Int).toNat).size + (strOfNums y129).size ≤ 9223372036854775807 then (if 0 ≤ (wrap64 ((ji22) + 1)) then (if (wrap64 ((ji22) + 1)) ≤ (S_a0.size : Int) then (if ((S_a0.extract 0 ((ji22) : Int).toNat) ++ (strOfNums y129)).size + (S_a0.extract ((wrap64 ((ji22) + 1)) : Int).toNat S_a0.size).size ≤ 9223372036854775807 then ((chunk_Same.f kj6 S_a0 (((S_a0.extract 0 ((ji22) : Int).toNat) ++ (strOfNums y129)) ++ (S_a0.extract ((wrap64 ((ji22) + 1)) : Int).toNat S_a0.size))).bind fun t132 => (aquiferlaw15_ChunkAlike.l0 kj6 S_a0 ji22 (((S_a0.extract 0 ((ji22) : Int).toNat) ++ (strOfNums y129)) ++ (S_a0.extract ((wrap64 ((ji22) + 1)) : Int).toNat S_a0.size)) t132 t132 (t132.length : Int) 0)) else (none)) else (none)) else (none)) else (none))) else (none)) else (none)) else (none)) = some r := by first | (rw [hji22] at H; exact H) | (simp only [hji22] at H ⊢; exact H)
              by_cases c23 : 0 ≤ (ji22)
              · rw [if_pos c23] at H
                have c23b0 := eq_true c23
                have c23b1 : decide (0 ≤ (ji22)) = true := decide_eq_true c23
                clear c23
                by_cases c24 : (ji22) ≤ (S_a0.size : Int)
                · rw [if_pos c24] at H
                  have c24b0 := eq_true c24
                  have c24b1 : decide ((ji22) ≤ (S_a0.size : Int)) = true := decide_eq_true c24
                  clear c24
                  obtain ⟨S1_S_a0_ji22, hS1_S_a0_ji22⟩ : ∃ z_ : ByteArray, S_a0.extract 0 (ji22 : Int).toNat = z_ := ⟨_, rfl⟩
                  rw [hS1_S_a0_ji22] at H
                  have hS1_S_a0_ji22l : ∀ W_ : World, (Instr.slice 9 (.string S_a0) none (some (.int .i64 ji22)) none).run Try.prog W_ = .ok (.string S1_S_a0_ji22) W_ := fun W_ => by rw [run_slice_string_h W_ 9 S_a0 Try.underlying9 .i64 ji22 (by first | omega | exact of_eq_true ‹(0 ≤ ji22) = True›) (by first | omega | exact of_eq_true ‹(ji22 ≤ (S_a0.size : Int)) = True›), hS1_S_a0_ji22]
                  have hS1_S_a0_ji224 : S1_S_a0_ji22.size ≤ S_a0.size := by rw [← hS1_S_a0_ji22]; simp <;> omega
                  have hS1_S_a0_ji22_ := Aside0.mk hS1_S_a0_ji22
                  clear hS1_S_a0_ji22
                  by_cases c25 : (ji22) < (S_a0.size : Int)
                  · rw [if_pos c25] at H
                    have c25b0 : decide ((ji22) < (S_a0.size : Int)) = true := decide_eq_true c25
                    clear c25
                    obtain ⟨y129, hy129⟩ : ∃ y_ : List Int, y_ = (([Go.bits .xor .u8 (bt S_a0 (ji22)) (Go.bits .or .u8 a2 1)] : List Int)) := ⟨_, rfl⟩
                    replace H : (if S1_S_a0_ji22.size + (strOfNums y129).size ≤ 9223372036854775807 then (if 0 ≤ (wrap64 ((ji22) + 1)) then (if (wrap64 ((ji22) + 1)) ≤ (S_a0.size : Int) then (if (S1_S_a0_ji22 ++ (strOfNums y129)).size + (S_a0.extract ((wrap64 ((ji22) + 1)) : Int).toNat S_a0.size).size ≤ 9223372036854775807 then ((chunk_Same.f kj6 S_a0 ((S1_S_a0_ji22 ++ (strOfNums y129)) ++ (S_a0.extract ((wrap64 ((ji22) + 1)) : Int).toNat S_a0.size))).bind fun t132 => (aquiferlaw15_ChunkAlike.l0 kj6 S_a0 ji22 ((S1_S_a0_ji22 ++ (strOfNums y129)) ++ (S_a0.extract ((wrap64 ((ji22) + 1)) : Int).toNat S_a0.size)) t132 t132 (t132.length : Int) 0)) else (none)) else (none)) else (none)) else (none)) = some r := by first | (rw [hy129]; with_reducible exact H) | (have H2_ := (Option.bind_some _ _).symm.trans H; rw [hy129]; with_reducible exact H2_) | (have H2_ := (Option.bind_some _ _).symm.trans H; with_reducible exact H2_) | with_reducible exact H | (rw [hy129]; exact H) | exact H
                    have Ny129 := Aside0.mk hy129
                    clear hy129
                    by_cases c27 : S1_S_a0_ji22.size + (strOfNums y129).size ≤ 9223372036854775807
                    · rw [if_pos c27] at H
                      have c27b0 := eq_true c27
                      have c27b1 : decide (S1_S_a0_ji22.size + (strOfNums y129).size ≤ 9223372036854775807) = true := decide_eq_true c27
                      try have c27b2 : (9223372036854775807 < S1_S_a0_ji22.size + (strOfNums y129).size) = False := eq_false (Nat.not_lt.2 c27)
                      (try (have c27b3_ := c27b2; simp only [ByteArray.size_append, Nat.add_zero] at c27b3_))
                      obtain ⟨ji28, hji28⟩ : ∃ j_ : Int, (wrap64 ((ji22) + 1)) = j_ := ⟨_, rfl⟩
                      replace H : (if 0 ≤ (ji28) then (if (ji28) ≤ (S_a0.size : Int) then (if (S1_S_a0_ji22 ++ (strOfNums y129)).size + (S_a0.extract ((ji28) : Int).toNat S_a0.size).size ≤ 9223372036854775807 then ((chunk_Same.f kj6 S_a0 ((S1_S_a0_ji22 ++ (strOfNums y129)) ++ (S_a0.extract ((ji28) : Int).toNat S_a0.size))).bind fun t132 => (aquiferlaw15_ChunkAlike.l0 kj6 S_a0 ji22 ((S1_S_a0_ji22 ++ (strOfNums y129)) ++ (S_a0.extract ((ji28) : Int).toNat S_a0.size)) t132 t132 (t132.length : Int) 0)) else (none)) else (none)) else (none)) = some r := by first | (rw [hji28] at H; exact H) | (simp only [hji28] at H ⊢; exact H)
                      have hji28w : (IntKind.i64.wrap ((ji22) + 1)) = ji28 := (i64_w _).trans hji28
                      by_cases c29 : 0 ≤ (ji28)
                      · rw [if_pos c29] at H
                        have c29b0 := eq_true c29
                        have c29b1 : decide (0 ≤ (ji28)) = true := decide_eq_true c29
                        clear c29
                        by_cases c30 : (ji28) ≤ (S_a0.size : Int)
                        · rw [if_pos c30] at H
                          have c30b0 := eq_true c30
                          have c30b1 : decide ((ji28) ≤ (S_a0.size : Int)) = true := decide_eq_true c30
                          clear c30
                          obtain ⟨S2_S_a0_ji28, hS2_S_a0_ji28⟩ : ∃ z_ : ByteArray, S_a0.extract (ji28 : Int).toNat S_a0.size = z_ := ⟨_, rfl⟩
                          rw [hS2_S_a0_ji28] at H
                          have hS2_S_a0_ji28l : ∀ W_ : World, (Instr.slice 9 (.string S_a0) (some (.int .i64 ji28)) none none).run Try.prog W_ = .ok (.string S2_S_a0_ji28) W_ := fun W_ => by rw [run_slice_string_l W_ 9 S_a0 Try.underlying9 .i64 ji28 (by first | omega | exact of_eq_true ‹(0 ≤ ji28) = True›) (by first | omega | exact of_eq_true ‹(ji28 ≤ (S_a0.size : Int)) = True›), hS2_S_a0_ji28]
                          have hS2_S_a0_ji284 : S2_S_a0_ji28.size ≤ S_a0.size := by rw [← hS2_S_a0_ji28]; simp <;> omega
                          have hS2_S_a0_ji28_ := Aside0.mk hS2_S_a0_ji28
                          clear hS2_S_a0_ji28
                          by_cases c31 : (S1_S_a0_ji22 ++ (strOfNums y129)).size + S2_S_a0_ji28.size ≤ 9223372036854775807
                          · rw [if_pos c31] at H
                            have c31b0 := eq_true c31
                            have c31b1 : decide ((S1_S_a0_ji22 ++ (strOfNums y129)).size + S2_S_a0_ji28.size ≤ 9223372036854775807) = true := decide_eq_true c31
                            try have c31b2 : (9223372036854775807 < (S1_S_a0_ji22 ++ (strOfNums y129)).size + S2_S_a0_ji28.size) = False := eq_false (Nat.not_lt.2 c31)
                            (try (have c31b3_ := c31b2; simp only [ByteArray.size_append, Nat.add_zero] at c31b3_))
                            replace H := Option.bind_eq_some_iff.mp H
                            obtain ⟨t132, A320, H⟩ := H
                            replace H : (aquiferlaw15_ChunkAlike.l0 kj6 S_a0 ji22 ((S1_S_a0_ji22 ++ (strOfNums y129)) ++ S2_S_a0_ji28) t132 t132 (t132.length : Int) 0) = some r := H
                            have A32 := Aside0.mk A320
                            clear A320
                            have H' := Aside0.mk H
                            clear H
                            try go_wp2
                            have n0_ := Aside0.mk (below_drew1 HB.out)
                            clear HB
                            have HB := n0_
                            clear n0_
                            have p26 : 0 ≤ ((ji22) : Int) := of_decide_eq_true (by first | (with_reducible assumption) | assumption)
                            have q26 : (ji22) < (S_a0.size : Int) := of_decide_eq_true (by first | (with_reducible assumption) | assumption)
                            have hx26 := bt_at S_a0 (ji22)
                            replace p26 := eq_true p26
                            replace q26 := eq_true q26
                            refine start_ (n := 18) (S := fun w' => True) (ds := []) #[false, false, false, false, false, false, false, false, false, false, false, false, false, false, false, false, false, false] (by kernel_rfl) rfl rfl trivial (fun hHeld => ?_); refine with_tabW aquiferlaw15_ChunkAlike.tab7 aquiferlaw15_ChunkAlike.bits7 (fun HT_ HW_ => ?_)
                            generalize wc.drew = w33 at HB hHeld ⊢
                            refine pure_ (i := 0) (N := some 45) (v := ?_) (a' := ?_) #[true, false, false, false, false, false, false, false, false, false, false, false, false, false, false, false, false, false] rfl rfl (any_of HT_.out (by kernel_rfl)) (fun _ _ _ h => h) (Or.inl ⟨by rfl, ?_⟩) ?_ ?_
                            rotate_left
                            · intro w'
                              go_simp
                              with_reducible rfl
                            rotate_left
                            · simp only [Act.put, List.setIfInBounds_toArray, List.set_cons_zero, List.set_cons_succ, i64_w, i32_w]
                              rfl
                            refine pure_ (i := 1) (N := some 46) (v := ?_) (a' := ?_) #[true, true, false, false, false, false, false, false, false, false, false, false, false, false, false, false, false, false] rfl rfl (any_of HT_.out (by kernel_rfl)) (fun _ _ _ h => h) (Or.inl ⟨by rfl, ?_⟩) ?_ ?_
                            rotate_left
                            · intro w'
                              go_simp
                              with_reducible rfl
                            rotate_left
                            · simp only [Act.put, List.setIfInBounds_toArray, List.set_cons_zero, List.set_cons_succ, i64_w, i32_w]
                              rfl
                            refine pure_ (i := 2) (N := some 47) (v := ?_) (a' := ?_) #[true, true, true, false, false, false, false, false, false, false, false, false, false, false, false, false, false, false] rfl rfl (any_of HT_.out (by kernel_rfl)) (fun _ _ _ h => h) (Or.inl ⟨by rfl, ?_⟩) ?_ ?_
                            rotate_left
                            · intro w'
                              go_simp
                              with_reducible rfl
                            rotate_left
                            · simp only [Act.put, List.setIfInBounds_toArray, List.set_cons_zero, List.set_cons_succ, i64_w, i32_w]
                              rfl
                            refine pure_ (i := 3) (N := some 48) (v := ?_) (a' := ?_) #[true, true, true, true, false, false, false, false, false, false, false, false, false, false, false, false, false, false] rfl rfl (any_of HT_.out (by kernel_rfl)) (fun _ _ _ h => h) (Or.inl ⟨by rfl, ?_⟩) ?_ ?_
                            rotate_left
                            · intro w'
                              go_simp
                              with_reducible rfl
                            rotate_left
                            · simp only [Act.put, List.setIfInBounds_toArray, List.set_cons_zero, List.set_cons_succ, i64_w, i32_w]
                              rfl
                            refine pure_ (i := 4) (N := some 49) (v := ?_) (a' := ?_) #[true, true, true, true, true, false, false, false, false, false, false, false, false, false, false, false, false, false] rfl rfl (any_of HT_.out (by kernel_rfl)) (fun _ _ _ h => h) (Or.inl ⟨by rfl, ?_⟩) ?_ ?_
                            rotate_left
                            · intro w'
                              go_simp
                              with_reducible rfl
                            rotate_left
                            · simp only [Act.put, List.setIfInBounds_toArray, List.set_cons_zero, List.set_cons_succ, i64_w, i32_w]
                              rfl
                            refine pure_ (i := 6) (N := some 51) (v := ?_) (a' := ?_) #[true, true, true, true, true, false, true, false, false, false, false, false, false, false, false, false, false, false] rfl rfl (any_of HT_.out (by kernel_rfl)) (fun _ _ _ h => h) (Or.inl ⟨by rfl, ?_⟩) ?_ ?_
                            rotate_left
                            · intro w'
                              go_simp
                              with_reducible rfl
                            rotate_left
                            · simp only [Act.put, List.setIfInBounds_toArray, List.set_cons_zero, List.set_cons_succ, i64_w, i32_w]
                              rfl
                            refine pure_ (i := 7) (N := some 52) (v := ?_) (a' := ?_) #[true, true, true, true, true, false, true, true, false, false, false, false, false, false, false, false, false, false] rfl rfl (any_of HT_.out (by kernel_rfl)) (fun _ _ _ h => h) (Or.inl ⟨by rfl, ?_⟩) ?_ ?_
                            rotate_left
                            · intro w'
                              go_simp
                              with_reducible rfl
                            rotate_left
                            · simp only [Act.put, List.setIfInBounds_toArray, List.set_cons_zero, List.set_cons_succ, i64_w, i32_w]
                              rfl
                            refine pure_ (i := 12) (N := some 57) (v := ?_) (a' := ?_) #[true, true, true, true, true, false, true, true, false, false, false, false, true, false, false, false, false, false] rfl rfl (any_of HT_.out (by kernel_rfl)) (fun _ _ _ h => h) (Or.inl ⟨by rfl, ?_⟩) ?_ ?_
                            rotate_left
                            · intro w'
                              go_simp
                              with_reducible rfl
                            rotate_left
                            · simp only [Act.put, List.setIfInBounds_toArray, List.set_cons_zero, List.set_cons_succ, i64_w, i32_w]
                              rfl
                            refine pure_ (i := 13) (N := some 58) (v := ?_) (a' := ?_) #[true, true, true, true, true, false, true, true, false, false, false, false, true, true, false, false, false, false] rfl rfl (any_of HT_.out (by kernel_rfl)) (fun _ _ _ h => h) (Or.inl ⟨by rfl, ?_⟩) ?_ ?_
                            rotate_left
                            · intro w'
                              go_simp
                              with_reducible rfl
                            rotate_left
                            · simp only [Act.put, List.setIfInBounds_toArray, List.set_cons_zero, List.set_cons_succ, i64_w, i32_w]
                              rfl
                            refine pure_ (i := 14) (N := some 59) (v := ?_) (a' := ?_) #[true, true, true, true, true, false, true, true, false, false, false, false, true, true, true, false, false, false] rfl rfl (any_of HT_.out (by kernel_rfl)) (fun _ _ _ h => h) (Or.inl ⟨by rfl, ?_⟩) ?_ ?_
                            rotate_left
                            · intro w'
                              go_simp
                              with_reducible rfl
                            rotate_left
                            · simp only [Act.put, List.setIfInBounds_toArray, List.set_cons_zero, List.set_cons_succ, i64_w, i32_w]
                              rfl
                            refine pure_ (i := 15) (N := some 60) (v := ?_) (a' := ?_) #[true, true, true, true, true, false, true, true, false, false, false, false, true, true, true, true, false, false] rfl rfl (any_of HT_.out (by kernel_rfl)) (fun _ _ _ h => h) (Or.inl ⟨by rfl, ?_⟩) ?_ ?_
                            rotate_left
                            · intro w'
                              go_simp
                              with_reducible rfl
                            rotate_left
                            · simp only [Act.put, List.setIfInBounds_toArray, List.set_cons_zero, List.set_cons_succ, i64_w, i32_w]
                              rfl
                            refine take_ (i := 5) (N := some 50) (v := ?_) (a' := ?_) #[true, true, true, true, true, true, true, true, false, false, false, false, true, true, true, true, false, false] rfl rfl (take_ofW HT_.out HW_.out (by kernel_rfl)) (fun _ _ _ h => h) (Or.inl ⟨by rfl, ?_⟩) hHeld ?_ ?_
                            rotate_left
                            · intro w' _
                              go_simp
                              with_reducible rfl
                            rotate_left
                            · simp only [Act.put, List.setIfInBounds_toArray, List.set_cons_zero, List.set_cons_succ, i64_w, i32_w]
                              rfl
                            refine pure_ (i := 8) (N := some 53) (v := ?_) (a' := ?_) #[true, true, true, true, true, true, true, true, true, false, false, false, true, true, true, true, false, false] rfl rfl (any_of HT_.out (by kernel_rfl)) (fun _ _ _ h => h) (Or.inl ⟨by rfl, ?_⟩) ?_ ?_
                            rotate_left
                            · intro w'
                              go_simp
                              with_reducible rfl
                            rotate_left
                            · simp only [Act.put, List.setIfInBounds_toArray, List.set_cons_zero, List.set_cons_succ, i64_w, i32_w]
                              rfl
                            refine one_ (i := 9) (N := some 54) #[true, true, true, true, true, true, true, true, true, true, false, false, true, true, true, true, false, false] rfl rfl (one_of HT_.out (by kernel_rfl)) (by decide) (fun K hK => ?_)
                            refine Kd.R_lit_step (Kd.int .u8) _ 5 ?hg (N := 54) ?hd (xs := ([Go.bits .xor .u8 (bt S_a0 (ji22)) (Go.bits .or .u8 a2 1)] : List Int)) (inner := [.int .u8 (Go.bits .xor .u8 (bt S_a0 (ji22)) (Go.bits .or .u8 a2 1))]) (ok := fun _ => True) (okp := fun _ => True) ?hr ?hp (fun _ hk => hk) trivial (Below.refl _ _) (Nat.le_refl _) (by simp) ?_; (case hd => rfl); (case hg => rfl); (case hr => first | (go_simp; done) | (go_simp; rfl)); (case hp => exact (Reps.one (show Kd.M (Kd.int .u8) _ _ _ (Go.bits .xor .u8 (bt S_a0 (ji22)) (Go.bits .or .u8 a2 1)) [.int .u8 (Go.bits .xor .u8 (bt S_a0 (ji22)) (Go.bits .or .u8 a2 1))] from rfl) (Reps.none _ _)))
                            intro v130 w34 ho35 hb hg_ hnew_
                            clear hg_ hnew_
                            (first | rw [← Ny129.out] at ho35 | (simp only [Int.reduceToNat] at ho35; rw [← Ny129.out] at ho35))
                            have n0_ := Aside0.mk (Kd.R_lower ho35 (below_size (by repeat (first | (with_reducible first | exact HB.out | apply below_alloc | apply pw_below_drewN | apply below_drew1) | exact HB.out))))
                            have n1_ := Aside0.mk (below_step (by repeat (first | (with_reducible first | exact HB.out | apply below_alloc | apply pw_below_drewN | apply below_drew1) | exact HB.out)) hb)
                            clear HB
                            have HO131 := n0_
                            have HB := n1_
                            clear n0_ n1_
                            clear hb ho35
                            refine hK.out _ _ trivial (fun hHeld => ?_)
                            clear hK K
                            refine norm_ (a' := ?_) ?_ ?_
                            rotate_left
                            · show Act.put _ (some 54) _ = _
                              simp only [Act.put, List.setIfInBounds_toArray, List.set_cons_zero, List.set_cons_succ, i64_w, i32_w]
                              rfl
                            refine one_ (i := 10) (N := some 55) #[true, true, true, true, true, true, true, true, true, true, true, false, true, true, true, true, false, false] rfl rfl (one_of HT_.out (by kernel_rfl)) (by decide) (fun K hK => ?_)
                            have hcv36 := own_string (P := Try.prog) Try.underlying32 Try.underlying5 Try.underlying9 (Kd.own_of_R HO131.out)
                            refine value_ (w1 := ?_) (v := ?_) (by rfl) rfl ?_ ?_
                            rotate_left 2
                            · go_simp
                              constructor
                              · rfl
                              · rfl
                            clear hcv36
                            refine hK.out _ _ trivial (fun hHeld => ?_)
                            clear hK K
                            refine norm_ (a' := ?_) ?_ ?_
                            rotate_left
                            · show Act.put _ (some 55) _ = _
                              simp only [Act.put, List.setIfInBounds_toArray, List.set_cons_zero, List.set_cons_succ, i64_w, i32_w]
                              rfl
                            refine pure_ (i := 11) (N := some 56) (v := ?_) (a' := ?_) #[true, true, true, true, true, true, true, true, true, true, true, true, true, true, true, true, false, false] rfl rfl (any_of HT_.out (by kernel_rfl)) (fun _ _ _ h => h) (Or.inl ⟨by rfl, ?_⟩) ?_ ?_
                            rotate_left
                            · intro w'
                              go_simp
                              with_reducible rfl
                            rotate_left
                            · simp only [Act.put, List.setIfInBounds_toArray, List.set_cons_zero, List.set_cons_succ, i64_w, i32_w]
                              rfl
                            refine pure_ (i := 16) (N := some 61) (v := ?_) (a' := ?_) #[true, true, true, true, true, true, true, true, true, true, true, true, true, true, true, true, true, false] rfl rfl (any_of HT_.out (by kernel_rfl)) (fun _ _ _ h => h) (Or.inl ⟨by rfl, ?_⟩) ?_ ?_
                            rotate_left
                            · intro w'
                              go_simp
                              with_reducible rfl
                            rotate_left
                            · simp only [Act.put, List.setIfInBounds_toArray, List.set_cons_zero, List.set_cons_succ, i64_w, i32_w]
                              rfl
                            refine pure_ (i := 17) (N := some 8) (v := ?_) (a' := ?_) #[true, true, true, true, true, true, true, true, true, true, true, true, true, true, true, true, true, true] rfl rfl (any_of HT_.out (by kernel_rfl)) (fun _ _ _ h => h) (Or.inl ⟨by rfl, ?_⟩) ?_ ?_
                            rotate_left
                            · intro w'
                              go_simp
                              with_reducible rfl
                            rotate_left
                            · simp only [Act.put, List.setIfInBounds_toArray, List.set_cons_zero, List.set_cons_succ, i64_w, i32_w]
                              rfl
                            refine done_ (done_of HT_.out (by kernel_rfl)) ?_
                            try go_wp2_with (first | ((with_reducible refine gate_callee (f := 12) rfl ?_); refine goesL_ (some 64) rfl rfl Try.func12 (by kernel_rfl) rfl #[.string S_a0, .string ((S1_S_a0_ji22 ++ (strOfNums y129)) ++ S2_S_a0_ji28)] rfl (by (try simp only [List.map_toArray, List.map_cons, List.map_nil]); first | done | (simp only [hji22, hji28, hji4]; rfl) | rfl | (simp only [List.length_drop, List.length_take]; rfl)) ?_; (with_reducible refine (chunk_Same.calls kj6 S_a0 ((S1_S_a0_ji22 ++ (strOfNums y129)) ++ S2_S_a0_ji28) t132 _ A32.out).mono ?_); rintro e w37 ⟨v133, rfl, ho0, hb⟩; refine ⟨_, rfl, ?_⟩; have n0_ := Aside0.mk (Kd.R_below (by (with_reducible repeat (first | apply Kd.R_alloc | apply Kd.R_drewN | apply Kd.R_drew)); exact HO131.out) hb); have n1_ := Aside0.mk (Kd.R_lower ho0 (below_size (by repeat (first | (with_reducible first | exact HB.out | apply below_alloc | apply pw_below_drewN | apply below_drew1) | exact HB.out)))); have n2_ := Aside0.mk (below_step (by repeat (first | (with_reducible first | exact HB.out | apply below_alloc | apply pw_below_drewN | apply below_drew1) | exact HB.out)) hb); clear HO131; clear HB; have HO131 := n0_; have HO134 := n1_; have HB := n2_; clear n0_ n1_ n2_; (try clear hb); (try clear hb2); (try clear hk); (try clear hi); (try clear ho0); obtain ⟨Ao38, co38, eo38⟩ := Kd.R_slice HO134.out; subst eo38))
                            go_loopg [67] kj6 (fun kq v67 w' => ∃ (x67_2 : Int), v67 = .int .i64 x67_2 ∧ Aside0 (aquiferlaw15_ChunkAlike.l0 kq S_a0 ji22 ((S1_S_a0_ji22 ++ (strOfNums y129)) ++ S2_S_a0_ji28) t132 t132 (t132.length : Int) x67_2 = some r) ∧ Aside0 (kq ≤ kj6) ∧ Aside0 (Kd.R (Kd.int .i64) 3 w' w.heap.size (fun _ => True) (.slice Ao38 t132.length co38) t132) ∧ Aside0 (Kd.R (Kd.int .i64) 3 w' w.heap.size (fun _ => True) (.slice Ao38 t132.length co38) t132) ∧ Aside0 (Below w.heap.size w w'))
                            case atStart => exact ⟨(0), (by first | rfl | (simp; done) | (simp [*]; done)), H', ⟨Nat.le_refl _⟩, ⟨by (with_reducible repeat (first | apply Kd.R_alloc | apply Kd.R_drewN | apply Kd.R_drew)); exact HO134.out⟩, ⟨by (with_reducible repeat (first | apply Kd.R_alloc | apply Kd.R_drewN | apply Kd.R_drew)); exact HO134.out⟩, ⟨by repeat (first | (with_reducible first | exact HB.out | apply below_alloc | apply pw_below_drewN | apply below_drew1) | exact HB.out)⟩⟩
                            case round =>
                              clear H'
                              try clear c1
                              try clear c2
                              try clear p2
                              try clear q2
                              try clear hx2
                              try clear c3
                              try clear hcv3
                              try clear c4
                              try clear c5
                              try clear c5b0
                              try clear c5b1
                              try clear c6
                              try clear c6b0
                              try clear c6b1
                              try clear p6
                              try clear c10
                              try clear c10b0
                              try clear c10b1
                              try clear c12
                              try clear c13
                              try clear c18
                              try clear c19
                              try clear c19b0
                              try clear c19b1
                              try clear c23
                              try clear c23b0
                              try clear c23b1
                              try clear c24
                              try clear c24b0
                              try clear c24b1
                              try clear c25
                              try clear c25b0
                              try clear p26
                              try clear q26
                              try clear hx26
                              try clear c27
                              try clear c27b0
                              try clear c27b1
                              try clear c27b2
                              try clear c29
                              try clear c29b0
                              try clear c29b1
                              try clear c30
                              try clear c30b0
                              try clear c30b1
                              try clear c31
                              try clear c31b0
                              try clear c31b1
                              try clear c31b2
                              try clear hcv36
                              try clear p2
                              try clear p26
                              try clear q26
                              obtain ⟨x67_2, rfl, HA, HK2, HO_9, HO_65, HB⟩ := hrel
                              cases gk with
                              | zero => exact absurd HA.out (by simp [aquiferlaw15_ChunkAlike.l0])
                              | succ k2 =>
                                have H := HA.out
                                clear HA
                                simp only [aquiferlaw15_ChunkAlike.l0] at H
                                by_cases c39 : x67_2 < (t132.length : Int)
                                · rw [if_pos c39] at H
                                  have c39b0 : decide (x67_2 < (t132.length : Int)) = true := decide_eq_true c39
                                  clear c39
                                  by_cases c40 : 0 ≤ x67_2
                                  · rw [if_pos c40] at H
                                    have c40b0 : decide (0 ≤ x67_2) = true := decide_eq_true c40
                                    clear c40
                                    by_cases c41 : x67_2 < (t132.length : Int)
                                    · rw [if_pos c41] at H
                                      have c41b0 : decide (x67_2 < (t132.length : Int)) = true := decide_eq_true c41
                                      clear c41
                                      by_cases c42 : (rd t132 x67_2) = (wrap64 (Int.tdiv ji22 64))
                                      · rw [if_pos c42] at H
                                        have c42b0 : ((rd t132 x67_2) == (wrap64 (Int.tdiv ji22 64))) = true := beq_iff_eq.mpr c42
                                        have c42b1 : ((rd t132 x67_2) != (wrap64 (Int.tdiv ji22 64))) = false := bne_eq_false_iff_eq.mpr c42
                                        clear c42
                                        obtain rfl := Option.some.inj H
                                        have p135 : 0 ≤ (x67_2 : Int) := of_decide_eq_true (by first | (with_reducible assumption) | assumption)
                                        have q135 : x67_2 < (t132.length : Int) := of_decide_eq_true (by first | (with_reducible assumption) | assumption)
                                        obtain ⟨ad135, e135, hx135_0⟩ := Kd.at_int (Kd.R_reads' HO_65.out).2.2 x67_2 p135 q135
                                        cases e135
                                        replace p135 := eq_true p135
                                        replace q135 := eq_true q135
                                        go_wp2
                                        go_ret
                                        exact ⟨by first | rfl | (simp [errW_none, errW_some] <;> rfl) | (simp only [← hji4, ← hji22, ← hji28]; first | rfl | (simp [errW_none, errW_some] <;> rfl)) | (simp [*, errW_none, errW_some] <;> rfl), by repeat (first | (with_reducible first | exact HB.out | apply below_alloc | apply pw_below_drewN | apply below_drew1) | exact HB.out)⟩
                                      · rw [if_neg c42] at H
                                        have c42b0 : ((rd t132 x67_2) == (wrap64 (Int.tdiv ji22 64))) = false := beq_eq_false_iff_ne.mpr c42
                                        have c42b1 : ((rd t132 x67_2) != (wrap64 (Int.tdiv ji22 64))) = true := bne_iff_ne.mpr c42
                                        have H' := Aside0.mk H
                                        clear H
                                        have p135 : 0 ≤ (x67_2 : Int) := of_decide_eq_true (by first | (with_reducible assumption) | assumption)
                                        have q135 : x67_2 < (t132.length : Int) := of_decide_eq_true (by first | (with_reducible assumption) | assumption)
                                        obtain ⟨ad135, e135, hx135_0⟩ := Kd.at_int (Kd.R_reads' HO_65.out).2.2 x67_2 p135 q135
                                        cases e135
                                        replace p135 := eq_true p135
                                        replace q135 := eq_true q135
                                        go_wp2
                                        go_roundg k2
                                        case measure => have := HJ6.out; have := HK2.out; omega
                                        case rel => exact ⟨(wrap64 (x67_2 + 1)), (by first | rfl | (simp; done) | (simp [*]; done)), H', ⟨by have := HJ6.out; have := HK2.out; omega⟩, ⟨by (with_reducible repeat (first | apply Kd.R_alloc | apply Kd.R_drewN | apply Kd.R_drew)); exact HO_9.out⟩, ⟨by (with_reducible repeat (first | apply Kd.R_alloc | apply Kd.R_drewN | apply Kd.R_drew)); exact HO_65.out⟩, ⟨by repeat (first | (with_reducible first | exact HB.out | apply below_alloc | apply pw_below_drewN | apply below_drew1) | exact HB.out)⟩⟩
                                    · rw [if_neg c41] at H
                                      exact absurd H (by simp)
                                  · rw [if_neg c40] at H
                                    exact absurd H (by simp)
                                · rw [if_neg c39] at H
                                  have c39b0 : decide (x67_2 < (t132.length : Int)) = false := decide_eq_false c39
                                  clear c39
                                  replace H := Option.bind_eq_some_iff.mp H
                                  obtain ⟨t136, A430, H⟩ := H
                                  replace H : (if (t132.length : Int) = (wrap64 (t136 - 1)) then ((chunk_Same.f k2 ((S1_S_a0_ji22 ++ (strOfNums y129)) ++ S2_S_a0_ji28) S_a0).bind fun t137 => ((aquiferref15_SameNums.f k2 t132 t137).bind fun t140 => (if t140 = true then ((aquiferlaw15_works.f).bind fun t141 => (some t141)) else (some false)))) else (some false)) = some r := H
                                  have A43 := Aside0.mk A430
                                  clear A430
                                  by_cases c44 : (t132.length : Int) = (wrap64 (t136 - 1))
                                  · rw [if_pos c44] at H
                                    have c44b0 : ((t132.length : Int) == (wrap64 (t136 - 1))) = true := beq_iff_eq.mpr c44
                                    have c44b1 : ((t132.length : Int) != (wrap64 (t136 - 1))) = false := bne_eq_false_iff_eq.mpr c44
                                    clear c44
                                    replace H := Option.bind_eq_some_iff.mp H
                                    obtain ⟨t137, A450, H⟩ := H
                                    replace H : ((aquiferref15_SameNums.f k2 t132 t137).bind fun t140 => (if t140 = true then ((aquiferlaw15_works.f).bind fun t141 => (some t141)) else (some false))) = some r := H
                                    have A45 := Aside0.mk A450
                                    clear A450
                                    replace H := Option.bind_eq_some_iff.mp H
                                    obtain ⟨t140, A460, H⟩ := H
                                    replace H : (if t140 = true then ((aquiferlaw15_works.f).bind fun t141 => (some t141)) else (some false)) = some r := H
                                    have A46 := Aside0.mk A460
                                    clear A460
                                    by_cases c47 : t140 = true
                                    · subst c47
                                      have H1 : ((aquiferlaw15_works.f).bind fun t141 => (some t141)) = some r := by rw [if_pos rfl] at H; exact H
                                      clear H
                                      have H := H1
                                      clear H1
                                      replace H := Option.bind_eq_some_iff.mp H
                                      obtain ⟨t141, A480, H⟩ := H
                                      replace H : (some t141) = some r := H
                                      have A48 := Aside0.mk A480
                                      clear A480
                                      obtain rfl := Option.some.inj H
                                      go_wp2_with (first | ((with_reducible refine gate_callee (f := 13) rfl ?_); refine goesL_ (some 80) rfl rfl Try.func13 (by kernel_rfl) rfl #[.int .i64 (S_a0.size : Int)] rfl (by (try simp only [List.map_toArray, List.map_cons, List.map_nil]); first | done | (simp only [hji4]; rfl) | rfl | (simp only [List.length_drop, List.length_take]; rfl)) ?_; (with_reducible refine (chunk_Count.calls (S_a0.size : Int) t136 _ A43.out).mono ?_); rintro e w' ⟨rfl, ⟨nd, rfl⟩⟩; refine ⟨_, rfl, ?_⟩) | (go_at_call 12; (with_reducible refine (chunk_Same.calls k2 ((S1_S_a0_ji22 ++ (strOfNums y129)) ++ S2_S_a0_ji28) S_a0 t137 _ A45.out).mono ?_); rintro e w49 ⟨v138, rfl, ho0, hb⟩; have n0_ := Aside0.mk (Kd.R_elder' (by (with_reducible repeat (first | apply Kd.R_alloc | apply Kd.R_drewN | apply Kd.R_drew)); exact HO_9.out) (Kd.R_base ho0) hb); have n1_ := Aside0.mk (Kd.R_elder' (by (with_reducible repeat (first | apply Kd.R_alloc | apply Kd.R_drewN | apply Kd.R_drew)); exact HO_65.out) (Kd.R_base ho0) hb); have n2_ := Aside0.mk (Kd.R_lower (Kd.R_new' (Kd.R_new' ho0 (Kd.R_lt (by (with_reducible repeat (first | apply Kd.R_alloc | apply Kd.R_drewN | apply Kd.R_drew)); exact HO_9.out))) (Kd.R_lt (by (with_reducible repeat (first | apply Kd.R_alloc | apply Kd.R_drewN | apply Kd.R_drew)); exact HO_65.out))) (below_size (by repeat (first | (with_reducible first | exact HB.out | apply below_alloc | apply pw_below_drewN | apply below_drew1) | exact HB.out)))); have n3_ := Aside0.mk (below_step (by repeat (first | (with_reducible first | exact HB.out | apply below_alloc | apply pw_below_drewN | apply below_drew1) | exact HB.out)) hb); clear HO_9; clear HO_65; clear HB; have HO_9 := n0_; have HO_65 := n1_; have HO139 := n2_; have HB := n3_; clear n0_ n1_ n2_ n3_; (try clear hb); (try clear hb2); (try clear hk); (try clear hi); (try clear ho0); obtain ⟨Ao50, co50, eo50⟩ := Kd.R_slice HO139.out; subst eo50) | (go_at_call 14; (with_reducible refine (aquiferref15_SameNums.calls k2 _ _ t132 _ _ t137 true _ ?side1 ?side2 ?side3 ?side4 A46.out).mono ?_); (case side1 => repeat (first | exact (Kd.R_reads' HO_9.out).2.2 | (with_reducible refine Kd.C_alloc ?_ _) | (with_reducible refine Kd.C_drewN ?_ _) | (with_reducible refine Kd.C_drew ?_))); (case side2 => exact (Kd.R_reads' HO_9.out).2.1); (case side3 => repeat (first | exact (Kd.R_reads' HO139.out).2.2 | (with_reducible refine Kd.C_alloc ?_ _) | (with_reducible refine Kd.C_drewN ?_ _) | (with_reducible refine Kd.C_drew ?_))); (case side4 => exact (Kd.R_reads' HO139.out).2.1); rintro e w' ⟨rfl, ⟨nd, rfl⟩⟩) | (go_at_call 10; (with_reducible refine (aquiferlaw15_works.calls  t141 _ A48.out).mono ?_); rintro e w51 ⟨rfl, hb⟩; have n0_ := Aside0.mk (Kd.R_below (by (with_reducible repeat (first | apply Kd.R_alloc | apply Kd.R_drewN | apply Kd.R_drew)); exact HO_9.out) hb); have n1_ := Aside0.mk (Kd.R_below (by (with_reducible repeat (first | apply Kd.R_alloc | apply Kd.R_drewN | apply Kd.R_drew)); exact HO_65.out) hb); have n2_ := Aside0.mk (Kd.R_below (by (with_reducible repeat (first | apply Kd.R_alloc | apply Kd.R_drewN | apply Kd.R_drew)); exact HO139.out) hb); have n3_ := Aside0.mk (below_step (by repeat (first | (with_reducible first | exact HB.out | apply below_alloc | apply pw_below_drewN | apply below_drew1) | exact HB.out)) hb); clear HO_9; clear HO_65; clear HO139; clear HB; have HO_9 := n0_; have HO_65 := n1_; have HO139 := n2_; have HB := n3_; clear n0_ n1_ n2_ n3_; (try clear hb); (try clear hb2); (try clear hk); (try clear hi)))
                                      go_ret
                                      exact ⟨by first | rfl | (simp [errW_none, errW_some] <;> rfl) | (simp only [← hji4, ← hji22, ← hji28]; first | rfl | (simp [errW_none, errW_some] <;> rfl)) | (simp [*, errW_none, errW_some] <;> rfl), by repeat (first | (with_reducible first | exact HB.out | apply below_alloc | apply pw_below_drewN | apply below_drew1) | exact HB.out)⟩
                                    · replace c47 := Bool.eq_false_iff.mpr c47
                                      subst c47
                                      have H1 : (some false) = some r := by rw [if_neg (show ¬ (false = true) by decide)] at H; exact H
                                      clear H
                                      have H := H1
                                      clear H1
                                      obtain rfl := Option.some.inj H
                                      go_wp2_with (first | ((with_reducible refine gate_callee (f := 13) rfl ?_); refine goesL_ (some 80) rfl rfl Try.func13 (by kernel_rfl) rfl #[.int .i64 (S_a0.size : Int)] rfl (by (try simp only [List.map_toArray, List.map_cons, List.map_nil]); first | done | (simp only [hji4]; rfl) | rfl | (simp only [List.length_drop, List.length_take]; rfl)) ?_; (with_reducible refine (chunk_Count.calls (S_a0.size : Int) t136 _ A43.out).mono ?_); rintro e w' ⟨rfl, ⟨nd, rfl⟩⟩; refine ⟨_, rfl, ?_⟩) | (go_at_call 12; (with_reducible refine (chunk_Same.calls k2 ((S1_S_a0_ji22 ++ (strOfNums y129)) ++ S2_S_a0_ji28) S_a0 t137 _ A45.out).mono ?_); rintro e w52 ⟨v138, rfl, ho0, hb⟩; have n0_ := Aside0.mk (Kd.R_elder' (by (with_reducible repeat (first | apply Kd.R_alloc | apply Kd.R_drewN | apply Kd.R_drew)); exact HO_9.out) (Kd.R_base ho0) hb); have n1_ := Aside0.mk (Kd.R_elder' (by (with_reducible repeat (first | apply Kd.R_alloc | apply Kd.R_drewN | apply Kd.R_drew)); exact HO_65.out) (Kd.R_base ho0) hb); have n2_ := Aside0.mk (Kd.R_lower (Kd.R_new' (Kd.R_new' ho0 (Kd.R_lt (by (with_reducible repeat (first | apply Kd.R_alloc | apply Kd.R_drewN | apply Kd.R_drew)); exact HO_9.out))) (Kd.R_lt (by (with_reducible repeat (first | apply Kd.R_alloc | apply Kd.R_drewN | apply Kd.R_drew)); exact HO_65.out))) (below_size (by repeat (first | (with_reducible first | exact HB.out | apply below_alloc | apply pw_below_drewN | apply below_drew1) | exact HB.out)))); have n3_ := Aside0.mk (below_step (by repeat (first | (with_reducible first | exact HB.out | apply below_alloc | apply pw_below_drewN | apply below_drew1) | exact HB.out)) hb); clear HO_9; clear HO_65; clear HB; have HO_9 := n0_; have HO_65 := n1_; have HO139 := n2_; have HB := n3_; clear n0_ n1_ n2_ n3_; (try clear hb); (try clear hb2); (try clear hk); (try clear hi); (try clear ho0); obtain ⟨Ao53, co53, eo53⟩ := Kd.R_slice HO139.out; subst eo53) | (go_at_call 14; (with_reducible refine (aquiferref15_SameNums.calls k2 _ _ t132 _ _ t137 false _ ?side1 ?side2 ?side3 ?side4 A46.out).mono ?_); (case side1 => repeat (first | exact (Kd.R_reads' HO_9.out).2.2 | (with_reducible refine Kd.C_alloc ?_ _) | (with_reducible refine Kd.C_drewN ?_ _) | (with_reducible refine Kd.C_drew ?_))); (case side2 => exact (Kd.R_reads' HO_9.out).2.1); (case side3 => repeat (first | exact (Kd.R_reads' HO139.out).2.2 | (with_reducible refine Kd.C_alloc ?_ _) | (with_reducible refine Kd.C_drewN ?_ _) | (with_reducible refine Kd.C_drew ?_))); (case side4 => exact (Kd.R_reads' HO139.out).2.1); rintro e w' ⟨rfl, ⟨nd, rfl⟩⟩))
                                      go_ret
                                      exact ⟨by first | rfl | (simp [errW_none, errW_some] <;> rfl) | (simp only [← hji4, ← hji22, ← hji28]; first | rfl | (simp [errW_none, errW_some] <;> rfl)) | (simp [*, errW_none, errW_some] <;> rfl), by repeat (first | (with_reducible first | exact HB.out | apply below_alloc | apply pw_below_drewN | apply below_drew1) | exact HB.out)⟩
                                  · rw [if_neg c44] at H
                                    have c44b0 : ((t132.length : Int) == (wrap64 (t136 - 1))) = false := beq_eq_false_iff_ne.mpr c44
                                    have c44b1 : ((t132.length : Int) != (wrap64 (t136 - 1))) = true := bne_iff_ne.mpr c44
                                    obtain rfl := Option.some.inj H
                                    go_wp2_with (first | ((with_reducible refine gate_callee (f := 13) rfl ?_); refine goesL_ (some 80) rfl rfl Try.func13 (by kernel_rfl) rfl #[.int .i64 (S_a0.size : Int)] rfl (by (try simp only [List.map_toArray, List.map_cons, List.map_nil]); first | done | (simp only [hji4]; rfl) | rfl | (simp only [List.length_drop, List.length_take]; rfl)) ?_; (with_reducible refine (chunk_Count.calls (S_a0.size : Int) t136 _ A43.out).mono ?_); rintro e w' ⟨rfl, ⟨nd, rfl⟩⟩; refine ⟨_, rfl, ?_⟩))
                                    go_ret
                                    exact ⟨by first | rfl | (simp [errW_none, errW_some] <;> rfl) | (simp only [← hji4, ← hji22, ← hji28]; first | rfl | (simp [errW_none, errW_some] <;> rfl)) | (simp [*, errW_none, errW_some] <;> rfl), by repeat (first | (with_reducible first | exact HB.out | apply below_alloc | apply pw_below_drewN | apply below_drew1) | exact HB.out)⟩
                          · rw [if_neg c31] at H
                            exact absurd H (by simp)
                        · rw [if_neg c30] at H
                          exact absurd H (by simp)
                      · rw [if_neg c29] at H
                        exact absurd H (by simp)
                    · rw [if_neg c27] at H
                      exact absurd H (by simp)
                  · rw [if_neg c25] at H
                    exact absurd H (by simp)
                · rw [if_neg c24] at H
                  exact absurd H (by simp)
              · rw [if_neg c23] at H
                exact absurd H (by simp)
    · rw [if_neg c6] at H
      exact absurd H (by simp)
  · rw [if_neg c5] at H
    exact absurd H (by simp)

/-- THE ONE PURE STATEMENT of aquiferlaw15_ChunkAlike: yours. -/
def aquiferlaw15_ChunkAlike.Pure : Prop := ∀ (a0 : ByteArray) (a1 : Int) (a2 : Int), a0.size ≤ 140737488351232 → (Lit.int .i64 a1).wf = true → (Lit.int .u8 a2).wf = true → ∃ k, aquiferlaw15_ChunkAlike.f k a0 a1 a2 = some true
theorem aquiferlaw15_ChunkAlike.walk (P : aquiferlaw15_ChunkAlike.Pure) (a0 : ByteArray) (a1 : Int) (a2 : Int) (w : World) (w0 : a0.size ≤ 140737488351232) (w1 : (Lit.int .i64 a1).wf = true) (w2 : (Lit.int .u8 a2).wf = true) :
    Calls Try.prog 4 #[.string a0, .int .i64 a1, .int .u8 a2] w fun e w' => e = .returned (.bool true) ∧ Below w.heap.size w w' := by
  obtain ⟨k, h⟩ := P a0 a1 a2 w0 w1 w2
  refine (aquiferlaw15_ChunkAlike.calls k a0 a1 a2 true w h).mono ?_
  rintro e w' ⟨rfl, hd⟩
  exact ⟨rfl, hd⟩

end Go.Proofs.Ytealmnllljoolaa.PChunkAlike
