/- Functions that the law reaches, each as a Lean function with the proof that the Go code comes to its answers; laid by wip/hook.py, a program of this session, over the print of the kit. -/
import Derived.Test.YtealmnllljoolaaPChunkReadsx0
namespace Go.Proofs.Ytealmnllljoolaa.PChunkReads
open Go.RowKit Go.Proofs.YtealmnllljoolaaW.PrintWords Go.Proofs.YtealmnllljoolaaW.PrintLast Go.Proofs.YtealmnllljoolaaW.PrintMore
attribute [local go_sem] max2_int min2_int max_two min_two max_three min_three max_four min_four   -- for this text's walks alone
set_option linter.unusedVariables false
set_option linter.unusedSimpArgs false

/-! ### aquiferlaw15_few: function 8 -/
def aquiferlaw15_few.f (a0 : ByteArray) : Option (ByteArray) := if 0 ≤ (mn (a0.size : Int) 4200) then (if (mn (a0.size : Int) 4200) ≤ (a0.size : Int) then (some (a0.extract 0 ((mn (a0.size : Int) 4200) : Int).toNat)) else (none)) else (none)
set_option maxHeartbeats 8000000 in
set_option maxRecDepth 100000 in
theorem aquiferlaw15_few.calls (a0 : ByteArray) (r : ByteArray) (w : World) (h : aquiferlaw15_few.f a0 = some r) :
    Calls Try.prog 8 #[.string a0] w fun e w' => e = .returned (.string r) ∧ Below w.heap.size w w' := by
  have HB := Aside0.mk (Below.refl w.heap.size w)
  have H : (if 0 ≤ (mn (a0.size : Int) 4200) then (if (mn (a0.size : Int) 4200) ≤ (a0.size : Int) then (some (a0.extract 0 ((mn (a0.size : Int) 4200) : Int).toNat)) else (none)) else (none)) = some r := h
  clear h
  obtain ⟨ji2, hji2⟩ : ∃ j_ : Int, (mn (a0.size : Int) 4200) = j_ := ⟨_, rfl⟩
  replace H : (if 0 ≤ (ji2) then (if (ji2) ≤ (a0.size : Int) then (some (a0.extract 0 ((ji2) : Int).toNat)) else (none)) else (none)) = some r := by first | (rw [hji2] at H; exact H) | (simp only [hji2] at H ⊢; exact H)
  (try (have hji2h : ji2 ≤ 4200 := by (rw [← hji2]; unfold mn; (repeat' split) <;> omega)))
  (try (have hji2g : ji2 ≤ 64 := by omega))
  (try (have hji2l : 0 ≤ ji2 := by (rw [← hji2]; unfold mn; (repeat' split) <;> omega)))
  (try (have hji2m : 0 ≤ ji2 := by omega))
  have hji2_ : (if 4200 < (a0.size : Int) then 4200 else (a0.size : Int)) = ji2 := hji2
  by_cases c3 : 0 ≤ (ji2)
  · rw [if_pos c3] at H
    have c3b0 := eq_true c3
    have c3b1 : decide (0 ≤ (ji2)) = true := decide_eq_true c3
    clear c3
    by_cases c4 : (ji2) ≤ (a0.size : Int)
    · rw [if_pos c4] at H
      have c4b0 := eq_true c4
      have c4b1 : decide ((ji2) ≤ (a0.size : Int)) = true := decide_eq_true c4
      clear c4
      obtain rfl := Option.some.inj H
      go_enter Try.func8, Try.ntmps8
      go_wp2
      go_ret
      exact ⟨by first | rfl | (simp [errW_none, errW_some] <;> rfl) | (simp only [← hji2]; first | rfl | (simp [errW_none, errW_some] <;> rfl)) | (simp [*, errW_none, errW_some] <;> rfl), by repeat (first | (with_reducible first | exact HB.out | apply below_alloc | apply pw_below_drewN | apply below_drew1) | exact HB.out)⟩
    · rw [if_neg c4] at H
      exact absurd H (by simp)
  · rw [if_neg c3] at H
    exact absurd H (by simp)

/-! ### chunk_Write: function 9 -/
/-- What Write writes. -/
def chunk_Write.row (a0 : ByteArray) (off : Nat) (a2 : ByteArray) : List Int :=
  Copy.over (Copy.over (List.replicate (if a0.size < off + a2.size then off + a2.size else a0.size) 0) 0 (bytesOf a0)) off (bytesOf a2)
def chunk_Write.f (a0 : ByteArray) (a1 : Int) (a2 : ByteArray) : Option (ByteArray × Int) :=
  if (a0.size : Int) > 4096 then (some ((⟨#[]⟩ : ByteArray), 3)) else (if a1 < 0 then (some ((⟨#[]⟩ : ByteArray), 2)) else (if a1 > 4096 then (some ((⟨#[]⟩ : ByteArray), 3)) else (if (a2.size : Int) > 4096 - a1 then (some ((⟨#[]⟩ : ByteArray), 3)) else (some (strOfNums (chunk_Write.row a0 a1.toNat a2), 0)))))
set_option maxHeartbeats 1000000 in
theorem chunk_Write.calls (a0 : ByteArray) (a1 : Int) (a2 : ByteArray) (r1 : ByteArray) (r2 : Int) (w : World) (h : chunk_Write.f a0 a1 a2 = some (r1, r2)) :
    Calls Try.prog 9 #[.string a0, .int .i64 a1, .string a2] w fun e w' => e = .returned (.tuple #[.string r1, .int .i64 r2]) ∧ Below w.heap.size w w' := by
  unfold chunk_Write.f at h
  by_cases c1 : (a0.size : Int) > 4096
  · rw [if_pos c1] at h
    simp only [Option.some.injEq, Prod.mk.injEq] at h
    obtain ⟨rfl, rfl⟩ := h
    have c1b : decide (4096 < a0.size) = true := decide_eq_true (by omega)
    go_enter Try.func9, Try.ntmps9
    go_wp2
    go_ret2
    exact ⟨rfl, Below.refl _ _⟩
  rw [if_neg c1] at h
  have c1b : decide (4096 < a0.size) = false := decide_eq_false (by omega)
  by_cases c2 : a1 < 0
  · rw [if_pos c2] at h
    simp only [Option.some.injEq, Prod.mk.injEq] at h
    obtain ⟨rfl, rfl⟩ := h
    go_enter Try.func9, Try.ntmps9
    go_wp2
    go_ret2
    exact ⟨rfl, Below.refl _ _⟩
  rw [if_neg c2] at h
  by_cases c3 : a1 > 4096
  · rw [if_pos c3] at h
    simp only [Option.some.injEq, Prod.mk.injEq] at h
    obtain ⟨rfl, rfl⟩ := h
    go_enter Try.func9, Try.ntmps9
    go_wp2
    go_ret2
    exact ⟨rfl, Below.refl _ _⟩
  rw [if_neg c3] at h
  obtain ⟨off, rfl⟩ := Int.eq_ofNat_of_zero_le (show 0 ≤ a1 by omega)
  by_cases c4 : (a2.size : Int) > 4096 - (off : Int)
  · rw [if_pos c4] at h
    simp only [Option.some.injEq, Prod.mk.injEq] at h
    obtain ⟨rfl, rfl⟩ := h
    go_enter Try.func9, Try.ntmps9
    go_wp2
    go_ret2
    exact ⟨rfl, Below.refl _ _⟩
  rw [if_neg c4] at h
  simp only [Option.some.injEq, Prod.mk.injEq, Int.toNat_natCast] at h
  obtain ⟨rfl, rfl⟩ := h
  obtain ⟨m, hm⟩ : ∃ m : Nat, (if a0.size < off + a2.size then off + a2.size else a0.size) = m := ⟨_, rfl⟩
  have hmi : (if (a0.size : Int) < (off : Int) + (a2.size : Int) then (off : Int) + (a2.size : Int) else (a0.size : Int)) = (m : Int) := by split at hm <;> split <;> omega
  have hm1 : a0.size ≤ m := by split at hm <;> omega
  have hm2 : off + a2.size ≤ m := by split at hm <;> omega
  have hm3 : m ≤ 4096 := by split at hm <;> omega
  have hrow : Hid (strOfNums (chunk_Write.row a0 off a2) = strOfNums (Copy.over (Copy.over (List.replicate m 0) 0 ((bytesOf a0).take a0.size)) off ((bytesOf a2).take a2.size))) := by
    show _ = _
    unfold chunk_Write.row
    rw [hm, List.take_of_length_le (by rw [bytesOf_length]; omega), List.take_of_length_le (by rw [bytesOf_length]; omega)]
  clear hm
  have hmk := print_make (P := Try.prog) 32 5 .u8 1 Try.underlying32 info5 (by omega) m (by omega)
  obtain ⟨i5, hi5, hz5⟩ := Option.map_eq_some_iff.1 info5
  have hs5 : (Try.prog.info? 5).map (fun i => i.size) = some 1 := by rw [hi5]; simp only [Prod.mk.injEq] at hz5; simp [hz5.2.1]
  simp only [Prod.mk.injEq] at hz5
  obtain ⟨A, hA, hcut⟩ : ∃ A : Option Addr, (off < m → A = some ⟨w.heap.size, off, none⟩) ∧ ∀ W : World, (Instr.slice 32 (.slice (some ⟨w.heap.size, 0, none⟩) m m) (some (.int .i64 (off : Int))) none none).run Try.prog W = .ok (.slice A (m - off) (m - off)) W := by
    refine ⟨if m = off then some ⟨w.heap.size, 0, none⟩ else some ⟨w.heap.size, off, none⟩, fun h => by rw [if_neg (by omega)], fun W => ?_⟩
    have hel : Try.prog.elem 32 = 5 := by simp [Program.elem, Try.underlying32]
    have hu : Try.prog.underlying 32 = some (.slice (Try.prog.elem 32)) := by rw [hel]; exact Try.underlying32
    rw [run_slice_l W 32 _ m m hu .i64 (off : Int) (Int.natCast_nonneg _) (by omega), hel]
    by_cases he : m = off
    · simp [sizeOf, typeInfo, hi5, hz5.2.1, sliced, Result.andThen, he]
    · simp [sizeOf, typeInfo, hi5, hz5.2.1, sliced, Result.andThen, he, Addr.add]
      by_cases h0 : off = 0 <;> simp [h0]
  have HA := Aside0.mk hA
  clear hA
  clear hi5
  go_enter Try.func9, Try.ntmps9
  go_wp2_with (first
    | (with_reducible refine Copy.copy_str (w0 := w) w.heap.size rfl (.tmp 34) (.tmp 35) 32 9 5 rfl Try.underlying32 hs5 w.heap.size m m (List.replicate m 0) 0 _ m m rfl a0 rfl a0.size (Nat.min_eq_left hm1) (fun _ => rfl) (by omega) (own_made w w.heap.size 5 .u8 m (Nat.le_refl _) (by omega)) ((Below.refl _ _).alloc (Nat.le_refl _) _) ?_; intro w1 HO1 HB1 hz1)
    | (with_reducible refine Copy.copy_str (w0 := w) w.heap.size rfl (.tmp 39) (.tmp 40) 32 9 5 rfl Try.underlying32 hs5 w.heap.size m m _ off A (m - off) (m - off) rfl a2 rfl a2.size (Nat.min_eq_left (by omega)) (fun h => HA.out (by omega)) (by omega) HO1 HB1 ?_; intro w2 HO2 HB2 hz2; have kst := own_string (P := Try.prog) Try.underlying32 Try.underlying5 Try.underlying9 HO2))
  go_ret2
  exact ⟨by rw [hrow.out]; rfl, HB2⟩


/-! ### chunk_Count: function 13 -/
def chunk_Count.f (a0 : Int) : Option (Int) := if a0 < 1 then (some 0) else (some (wrap64 ((wrap64 (Int.tdiv (wrap64 (a0 - 1)) 64)) + 1)))
set_option maxHeartbeats 8000000 in
set_option maxRecDepth 100000 in
theorem chunk_Count.calls (a0 : Int) (r : Int) (w : World) (h : chunk_Count.f a0 = some r) :
    Calls Try.prog 13 #[.int .i64 a0] w fun e w' => e = .returned (.int .i64 r) ∧ Drawn0 w w' := by
  have H : (if a0 < 1 then (some 0) else (some (wrap64 ((wrap64 (Int.tdiv (wrap64 (a0 - 1)) 64)) + 1)))) = some r := h
  clear h
  by_cases c2 : a0 < 1
  · rw [if_pos c2] at H
    have c2b0 : decide (a0 < 1) = true := decide_eq_true c2
    clear c2
    obtain rfl := Option.some.inj H
    go_enter Try.func13, Try.ntmps13
    go_wp2
    go_ret
    exact ⟨by first | rfl | (simp; done) | (simp [*]; done), by repeat (first | exact Drawn0.refl _ | apply Drawn0.step)⟩
  · rw [if_neg c2] at H
    have c2b0 : decide (a0 < 1) = false := decide_eq_false c2
    clear c2
    obtain rfl := Option.some.inj H
    go_enter Try.func13, Try.ntmps13
    go_wp2
    go_ret
    exact ⟨by first | rfl | (simp; done) | (simp [*]; done), by repeat (first | exact Drawn0.refl _ | apply Drawn0.step)⟩

/-! ### chunk_Bounds: function 19 -/
def chunk_Bounds.f (a0 : Int) (a1 : Int) : Option (Int × Int) := if a0 > 4096 then (some (0, 0)) else (if a1 < 0 then (some (0, 0)) else ((chunk_Count.f a0).bind fun t101 => (if a1 ≥ t101 then (some (0, 0)) else (some (wrap64 (a1 * 64), mn (wrap64 ((wrap64 (a1 * 64)) + 64)) a0)))))
set_option maxHeartbeats 8000000 in
set_option maxRecDepth 100000 in
theorem chunk_Bounds.calls (a0 : Int) (a1 : Int) (r1 : Int) (r2 : Int) (w : World) (h : chunk_Bounds.f a0 a1 = some (r1, r2)) :
    Calls Try.prog 19 #[.int .i64 a0, .int .i64 a1] w fun e w' => e = .returned (.tuple #[.int .i64 r1, .int .i64 r2]) ∧ Below w.heap.size w w' := by
  have HB := Aside0.mk (Below.refl w.heap.size w)
  have H : (if a0 > 4096 then (some (0, 0)) else (if a1 < 0 then (some (0, 0)) else ((chunk_Count.f a0).bind fun t101 => (if a1 ≥ t101 then (some (0, 0)) else (some (wrap64 (a1 * 64), mn (wrap64 ((wrap64 (a1 * 64)) + 64)) a0)))))) = some (r1, r2) := h
  clear h
  by_cases c3 : a0 > 4096
  · rw [if_pos c3] at H
    have c3b0 : decide (4096 < a0) = true := decide_eq_true c3
    clear c3
    simp only [Option.some.injEq, Prod.mk.injEq] at H
    obtain ⟨rfl, rfl⟩ := H
    go_enter Try.func19, Try.ntmps19
    go_wp2
    go_ret2
    exact ⟨by first | rfl | (simp [errW_none, errW_some] <;> rfl) | (simp [*, errW_none, errW_some] <;> rfl), by repeat (first | (with_reducible first | exact HB.out | apply below_alloc | apply pw_below_drewN | apply below_drew1) | exact HB.out)⟩
  · rw [if_neg c3] at H
    have c3b0 : decide (4096 < a0) = false := decide_eq_false c3
    clear c3
    by_cases c4 : a1 < 0
    · rw [if_pos c4] at H
      have c4b0 : decide (a1 < 0) = true := decide_eq_true c4
      clear c4
      simp only [Option.some.injEq, Prod.mk.injEq] at H
      obtain ⟨rfl, rfl⟩ := H
      go_enter Try.func19, Try.ntmps19
      go_wp2
      go_ret2
      exact ⟨by first | rfl | (simp [errW_none, errW_some] <;> rfl) | (simp [*, errW_none, errW_some] <;> rfl), by repeat (first | (with_reducible first | exact HB.out | apply below_alloc | apply pw_below_drewN | apply below_drew1) | exact HB.out)⟩
    · rw [if_neg c4] at H
      have c4b0 : decide (a1 < 0) = false := decide_eq_false c4
      clear c4
      replace H := Option.bind_eq_some_iff.mp H
      obtain ⟨t101, A50, H⟩ := H
      replace H : (if a1 ≥ t101 then (some (0, 0)) else (some (wrap64 (a1 * 64), mn (wrap64 ((wrap64 (a1 * 64)) + 64)) a0))) = some (r1, r2) := H
      have A5 := Aside0.mk A50
      clear A50
      by_cases c6 : a1 ≥ t101
      · rw [if_pos c6] at H
        have c6b0 : decide (t101 ≤ a1) = true := decide_eq_true c6
        clear c6
        simp only [Option.some.injEq, Prod.mk.injEq] at H
        obtain ⟨rfl, rfl⟩ := H
        go_enter Try.func19, Try.ntmps19
        go_wp2_with (first | (go_at_call 13; (with_reducible refine (chunk_Count.calls a0 t101 _ A5.out).mono ?_); rintro e w' ⟨rfl, ⟨nd, rfl⟩⟩))
        go_ret2
        exact ⟨by first | rfl | (simp [errW_none, errW_some] <;> rfl) | (simp [*, errW_none, errW_some] <;> rfl), by repeat (first | (with_reducible first | exact HB.out | apply below_alloc | apply pw_below_drewN | apply below_drew1) | exact HB.out)⟩
      · rw [if_neg c6] at H
        have c6b0 : decide (t101 ≤ a1) = false := decide_eq_false c6
        clear c6
        obtain ⟨ji7, hji7⟩ : ∃ j_ : Int, (mn (wrap64 ((wrap64 (a1 * 64)) + 64)) a0) = j_ := ⟨_, rfl⟩
        replace H : (some (wrap64 (a1 * 64), ji7)) = some (r1, r2) := by first | (rw [hji7] at H; exact H) | (simp only [hji7] at H ⊢; exact H)
        (try rw [hji7] at A5)
        have hji7_ : (if a0 < (wrap64 ((wrap64 (a1 * 64)) + 64)) then a0 else (wrap64 ((wrap64 (a1 * 64)) + 64))) = ji7 := hji7
        simp only [Option.some.injEq, Prod.mk.injEq] at H
        obtain ⟨rfl, rfl⟩ := H
        go_enter Try.func19, Try.ntmps19
        go_wp2_with (first | (go_at_call 13; (with_reducible refine (chunk_Count.calls a0 t101 _ A5.out).mono ?_); rintro e w' ⟨rfl, ⟨nd, rfl⟩⟩))
        go_ret2
        exact ⟨by first | rfl | (simp [errW_none, errW_some] <;> rfl) | (simp only [← hji7]; first | rfl | (simp [errW_none, errW_some] <;> rfl)) | (simp [*, errW_none, errW_some] <;> rfl), by repeat (first | (with_reducible first | exact HB.out | apply below_alloc | apply pw_below_drewN | apply below_drew1) | exact HB.out)⟩

/-! ### aquiferlaw15_works: function 10 -/
def aquiferlaw15_works.f  : Option (Bool) := (chunk_Bounds.f 100 1).bind fun bt102 => ((chunk_Write.f (⟨#[97, 98]⟩ : ByteArray) 3 (⟨#[120]⟩ : ByteArray)).bind fun bt104 => ((chunk_Count.f 64).bind fun t106 => (if t106 = 1 then ((chunk_Count.f 65).bind fun t107 => (if t107 = 2 then (if bt102.1 = 64 then (if bt102.2 = 100 then (if bt104.1.toList = ([97, 98, 0, 120] : List UInt8) then (some (bt104.2 == 0)) else (some false)) else (some false)) else (some false)) else (some false))) else (some false))))
set_option maxHeartbeats 8000000 in
set_option maxRecDepth 100000 in
theorem aquiferlaw15_works.calls  (r : Bool) (w : World) (h : aquiferlaw15_works.f  = some r) :
    Calls Try.prog 10 #[] w fun e w' => e = .returned (.bool r) ∧ Below w.heap.size w w' := by
  have HB := Aside0.mk (Below.refl w.heap.size w)
  have H : ((chunk_Bounds.f 100 1).bind fun bt102 => ((chunk_Write.f (⟨#[97, 98]⟩ : ByteArray) 3 (⟨#[120]⟩ : ByteArray)).bind fun bt104 => ((chunk_Count.f 64).bind fun t106 => (if t106 = 1 then ((chunk_Count.f 65).bind fun t107 => (if t107 = 2 then (if bt102.1 = 64 then (if bt102.2 = 100 then (if bt104.1.toList = ([97, 98, 0, 120] : List UInt8) then (some (bt104.2 == 0)) else (some false)) else (some false)) else (some false)) else (some false))) else (some false))))) = some r := h
  clear h
  replace H := Option.bind_eq_some_iff.mp H
  obtain ⟨⟨t102, t103⟩, A10, H⟩ := H
  replace H : ((chunk_Write.f (⟨#[97, 98]⟩ : ByteArray) 3 (⟨#[120]⟩ : ByteArray)).bind fun bt104 => ((chunk_Count.f 64).bind fun t106 => (if t106 = 1 then ((chunk_Count.f 65).bind fun t107 => (if t107 = 2 then (if t102 = 64 then (if t103 = 100 then (if bt104.1.toList = ([97, 98, 0, 120] : List UInt8) then (some (bt104.2 == 0)) else (some false)) else (some false)) else (some false)) else (some false))) else (some false)))) = some r := H
  have A1 := Aside0.mk A10
  clear A10
  replace H := Option.bind_eq_some_iff.mp H
  obtain ⟨⟨t104, t105⟩, A20, H⟩ := H
  replace H : ((chunk_Count.f 64).bind fun t106 => (if t106 = 1 then ((chunk_Count.f 65).bind fun t107 => (if t107 = 2 then (if t102 = 64 then (if t103 = 100 then (if t104.toList = ([97, 98, 0, 120] : List UInt8) then (some (t105 == 0)) else (some false)) else (some false)) else (some false)) else (some false))) else (some false))) = some r := H
  have A2 := Aside0.mk A20
  clear A20
  replace H := Option.bind_eq_some_iff.mp H
  obtain ⟨t106, A30, H⟩ := H
  replace H : (if t106 = 1 then ((chunk_Count.f 65).bind fun t107 => (if t107 = 2 then (if t102 = 64 then (if t103 = 100 then (if t104.toList = ([97, 98, 0, 120] : List UInt8) then (some (t105 == 0)) else (some false)) else (some false)) else (some false)) else (some false))) else (some false)) = some r := H
  have A3 := Aside0.mk A30
  clear A30
  by_cases c4 : t106 = 1
  · rw [if_pos c4] at H
    have c4b0 : (t106 == 1) = true := beq_iff_eq.mpr c4
    have c4b1 : (t106 != 1) = false := bne_eq_false_iff_eq.mpr c4
    clear c4
    replace H := Option.bind_eq_some_iff.mp H
    obtain ⟨t107, A50, H⟩ := H
    replace H : (if t107 = 2 then (if t102 = 64 then (if t103 = 100 then (if t104.toList = ([97, 98, 0, 120] : List UInt8) then (some (t105 == 0)) else (some false)) else (some false)) else (some false)) else (some false)) = some r := H
    have A5 := Aside0.mk A50
    clear A50
    by_cases c6 : t107 = 2
    · rw [if_pos c6] at H
      have c6b0 : (t107 == 2) = true := beq_iff_eq.mpr c6
      have c6b1 : (t107 != 2) = false := bne_eq_false_iff_eq.mpr c6
      clear c6
      by_cases c7 : t102 = 64
      · rw [if_pos c7] at H
        have c7b0 : (t102 == 64) = true := beq_iff_eq.mpr c7
        have c7b1 : (t102 != 64) = false := bne_eq_false_iff_eq.mpr c7
        clear c7
        by_cases c8 : t103 = 100
        · rw [if_pos c8] at H
          have c8b0 : (t103 == 100) = true := beq_iff_eq.mpr c8
          have c8b1 : (t103 != 100) = false := bne_eq_false_iff_eq.mpr c8
          clear c8
          by_cases c9 : t104.toList = ([97, 98, 0, 120] : List UInt8)
          · rw [if_pos c9] at H
            have c9b0 : (t104.toList == ([97, 98, 0, 120] : List UInt8)) = true := beq_iff_eq.mpr c9
            have c9b1 : (t104.toList != ([97, 98, 0, 120] : List UInt8)) = false := bne_eq_false_iff_eq.mpr c9
            clear c9
            obtain rfl := Option.some.inj H
            go_enter Try.func10, Try.ntmps10
            go_wp2_with (first | ((with_reducible refine gate_callee (f := 19) rfl ?_); refine goesL_ (some 6) rfl rfl Try.func19 (by kernel_rfl) rfl #[.int .i64 100, .int .i64 1] rfl (by (try simp only [List.map_toArray, List.map_cons, List.map_nil]); first | done | rfl | (simp only [List.length_drop, List.length_take]; rfl)) ?_; (with_reducible refine (chunk_Bounds.calls 100 1 t102 t103 _ A1.out).mono ?_); rintro e w10 ⟨rfl, hb⟩; refine ⟨_, rfl, ?_⟩; have n0_ := Aside0.mk (below_step (by repeat (first | (with_reducible first | exact HB.out | apply below_alloc | apply pw_below_drewN | apply below_drew1) | exact HB.out)) hb); clear HB; have HB := n0_; clear n0_; (try clear hb); (try clear hb2); (try clear hk); (try clear hi)) | ((with_reducible refine gate_callee (f := 9) rfl ?_); refine goesL_ (some 10) rfl rfl Try.func9 (by kernel_rfl) rfl #[.string (⟨#[97, 98]⟩ : ByteArray), .int .i64 3, .string (⟨#[120]⟩ : ByteArray)] rfl (by (try simp only [List.map_toArray, List.map_cons, List.map_nil]); first | done | rfl | (simp only [List.length_drop, List.length_take]; rfl)) ?_; (with_reducible refine (chunk_Write.calls (⟨#[97, 98]⟩ : ByteArray) 3 (⟨#[120]⟩ : ByteArray) t104 t105 _ A2.out).mono ?_); rintro e w11 ⟨rfl, hb⟩; refine ⟨_, rfl, ?_⟩; have n0_ := Aside0.mk (below_step (by repeat (first | (with_reducible first | exact HB.out | apply below_alloc | apply pw_below_drewN | apply below_drew1) | exact HB.out)) hb); clear HB; have HB := n0_; clear n0_; (try clear hb); (try clear hb2); (try clear hk); (try clear hi)) | ((with_reducible refine gate_callee (f := 13) rfl ?_); refine goesL_ (some 13) rfl rfl Try.func13 (by kernel_rfl) rfl #[.int .i64 64] rfl (by (try simp only [List.map_toArray, List.map_cons, List.map_nil]); first | done | rfl | (simp only [List.length_drop, List.length_take]; rfl)) ?_; (with_reducible refine (chunk_Count.calls 64 t106 _ A3.out).mono ?_); rintro e w' ⟨rfl, ⟨nd, rfl⟩⟩; refine ⟨_, rfl, ?_⟩) | (go_at_call 13; (with_reducible refine (chunk_Count.calls 65 t107 _ A5.out).mono ?_); rintro e w' ⟨rfl, ⟨nd, rfl⟩⟩))
            go_ret
            exact ⟨by first | rfl | (simp [errW_none, errW_some] <;> rfl) | (simp [*, errW_none, errW_some] <;> rfl), by repeat (first | (with_reducible first | exact HB.out | apply below_alloc | apply pw_below_drewN | apply below_drew1) | exact HB.out)⟩
          · rw [if_neg c9] at H
            have c9b0 : (t104.toList == ([97, 98, 0, 120] : List UInt8)) = false := beq_eq_false_iff_ne.mpr c9
            have c9b1 : (t104.toList != ([97, 98, 0, 120] : List UInt8)) = true := bne_iff_ne.mpr c9
            obtain rfl := Option.some.inj H
            go_enter Try.func10, Try.ntmps10
            go_wp2_with (first | ((with_reducible refine gate_callee (f := 19) rfl ?_); refine goesL_ (some 6) rfl rfl Try.func19 (by kernel_rfl) rfl #[.int .i64 100, .int .i64 1] rfl (by (try simp only [List.map_toArray, List.map_cons, List.map_nil]); first | done | rfl | (simp only [List.length_drop, List.length_take]; rfl)) ?_; (with_reducible refine (chunk_Bounds.calls 100 1 t102 t103 _ A1.out).mono ?_); rintro e w12 ⟨rfl, hb⟩; refine ⟨_, rfl, ?_⟩; have n0_ := Aside0.mk (below_step (by repeat (first | (with_reducible first | exact HB.out | apply below_alloc | apply pw_below_drewN | apply below_drew1) | exact HB.out)) hb); clear HB; have HB := n0_; clear n0_; (try clear hb); (try clear hb2); (try clear hk); (try clear hi)) | ((with_reducible refine gate_callee (f := 9) rfl ?_); refine goesL_ (some 10) rfl rfl Try.func9 (by kernel_rfl) rfl #[.string (⟨#[97, 98]⟩ : ByteArray), .int .i64 3, .string (⟨#[120]⟩ : ByteArray)] rfl (by (try simp only [List.map_toArray, List.map_cons, List.map_nil]); first | done | rfl | (simp only [List.length_drop, List.length_take]; rfl)) ?_; (with_reducible refine (chunk_Write.calls (⟨#[97, 98]⟩ : ByteArray) 3 (⟨#[120]⟩ : ByteArray) t104 t105 _ A2.out).mono ?_); rintro e w13 ⟨rfl, hb⟩; refine ⟨_, rfl, ?_⟩; have n0_ := Aside0.mk (below_step (by repeat (first | (with_reducible first | exact HB.out | apply below_alloc | apply pw_below_drewN | apply below_drew1) | exact HB.out)) hb); clear HB; have HB := n0_; clear n0_; (try clear hb); (try clear hb2); (try clear hk); (try clear hi)) | ((with_reducible refine gate_callee (f := 13) rfl ?_); refine goesL_ (some 13) rfl rfl Try.func13 (by kernel_rfl) rfl #[.int .i64 64] rfl (by (try simp only [List.map_toArray, List.map_cons, List.map_nil]); first | done | rfl | (simp only [List.length_drop, List.length_take]; rfl)) ?_; (with_reducible refine (chunk_Count.calls 64 t106 _ A3.out).mono ?_); rintro e w' ⟨rfl, ⟨nd, rfl⟩⟩; refine ⟨_, rfl, ?_⟩) | (go_at_call 13; (with_reducible refine (chunk_Count.calls 65 t107 _ A5.out).mono ?_); rintro e w' ⟨rfl, ⟨nd, rfl⟩⟩))
            go_ret
            exact ⟨by first | rfl | (simp [errW_none, errW_some] <;> rfl) | (simp [*, errW_none, errW_some] <;> rfl), by repeat (first | (with_reducible first | exact HB.out | apply below_alloc | apply pw_below_drewN | apply below_drew1) | exact HB.out)⟩
        · rw [if_neg c8] at H
          have c8b0 : (t103 == 100) = false := beq_eq_false_iff_ne.mpr c8
          have c8b1 : (t103 != 100) = true := bne_iff_ne.mpr c8
          obtain rfl := Option.some.inj H
          go_enter Try.func10, Try.ntmps10
          go_wp2_with (first | ((with_reducible refine gate_callee (f := 19) rfl ?_); refine goesL_ (some 6) rfl rfl Try.func19 (by kernel_rfl) rfl #[.int .i64 100, .int .i64 1] rfl (by (try simp only [List.map_toArray, List.map_cons, List.map_nil]); first | done | rfl | (simp only [List.length_drop, List.length_take]; rfl)) ?_; (with_reducible refine (chunk_Bounds.calls 100 1 t102 t103 _ A1.out).mono ?_); rintro e w14 ⟨rfl, hb⟩; refine ⟨_, rfl, ?_⟩; have n0_ := Aside0.mk (below_step (by repeat (first | (with_reducible first | exact HB.out | apply below_alloc | apply pw_below_drewN | apply below_drew1) | exact HB.out)) hb); clear HB; have HB := n0_; clear n0_; (try clear hb); (try clear hb2); (try clear hk); (try clear hi)) | ((with_reducible refine gate_callee (f := 9) rfl ?_); refine goesL_ (some 10) rfl rfl Try.func9 (by kernel_rfl) rfl #[.string (⟨#[97, 98]⟩ : ByteArray), .int .i64 3, .string (⟨#[120]⟩ : ByteArray)] rfl (by (try simp only [List.map_toArray, List.map_cons, List.map_nil]); first | done | rfl | (simp only [List.length_drop, List.length_take]; rfl)) ?_; (with_reducible refine (chunk_Write.calls (⟨#[97, 98]⟩ : ByteArray) 3 (⟨#[120]⟩ : ByteArray) t104 t105 _ A2.out).mono ?_); rintro e w15 ⟨rfl, hb⟩; refine ⟨_, rfl, ?_⟩; have n0_ := Aside0.mk (below_step (by repeat (first | (with_reducible first | exact HB.out | apply below_alloc | apply pw_below_drewN | apply below_drew1) | exact HB.out)) hb); clear HB; have HB := n0_; clear n0_; (try clear hb); (try clear hb2); (try clear hk); (try clear hi)) | ((with_reducible refine gate_callee (f := 13) rfl ?_); refine goesL_ (some 13) rfl rfl Try.func13 (by kernel_rfl) rfl #[.int .i64 64] rfl (by (try simp only [List.map_toArray, List.map_cons, List.map_nil]); first | done | rfl | (simp only [List.length_drop, List.length_take]; rfl)) ?_; (with_reducible refine (chunk_Count.calls 64 t106 _ A3.out).mono ?_); rintro e w' ⟨rfl, ⟨nd, rfl⟩⟩; refine ⟨_, rfl, ?_⟩) | (go_at_call 13; (with_reducible refine (chunk_Count.calls 65 t107 _ A5.out).mono ?_); rintro e w' ⟨rfl, ⟨nd, rfl⟩⟩))
          go_ret
          exact ⟨by first | rfl | (simp [errW_none, errW_some] <;> rfl) | (simp [*, errW_none, errW_some] <;> rfl), by repeat (first | (with_reducible first | exact HB.out | apply below_alloc | apply pw_below_drewN | apply below_drew1) | exact HB.out)⟩
      · rw [if_neg c7] at H
        have c7b0 : (t102 == 64) = false := beq_eq_false_iff_ne.mpr c7
        have c7b1 : (t102 != 64) = true := bne_iff_ne.mpr c7
        obtain rfl := Option.some.inj H
        go_enter Try.func10, Try.ntmps10
        go_wp2_with (first | ((with_reducible refine gate_callee (f := 19) rfl ?_); refine goesL_ (some 6) rfl rfl Try.func19 (by kernel_rfl) rfl #[.int .i64 100, .int .i64 1] rfl (by (try simp only [List.map_toArray, List.map_cons, List.map_nil]); first | done | rfl | (simp only [List.length_drop, List.length_take]; rfl)) ?_; (with_reducible refine (chunk_Bounds.calls 100 1 t102 t103 _ A1.out).mono ?_); rintro e w16 ⟨rfl, hb⟩; refine ⟨_, rfl, ?_⟩; have n0_ := Aside0.mk (below_step (by repeat (first | (with_reducible first | exact HB.out | apply below_alloc | apply pw_below_drewN | apply below_drew1) | exact HB.out)) hb); clear HB; have HB := n0_; clear n0_; (try clear hb); (try clear hb2); (try clear hk); (try clear hi)) | ((with_reducible refine gate_callee (f := 9) rfl ?_); refine goesL_ (some 10) rfl rfl Try.func9 (by kernel_rfl) rfl #[.string (⟨#[97, 98]⟩ : ByteArray), .int .i64 3, .string (⟨#[120]⟩ : ByteArray)] rfl (by (try simp only [List.map_toArray, List.map_cons, List.map_nil]); first | done | rfl | (simp only [List.length_drop, List.length_take]; rfl)) ?_; (with_reducible refine (chunk_Write.calls (⟨#[97, 98]⟩ : ByteArray) 3 (⟨#[120]⟩ : ByteArray) t104 t105 _ A2.out).mono ?_); rintro e w17 ⟨rfl, hb⟩; refine ⟨_, rfl, ?_⟩; have n0_ := Aside0.mk (below_step (by repeat (first | (with_reducible first | exact HB.out | apply below_alloc | apply pw_below_drewN | apply below_drew1) | exact HB.out)) hb); clear HB; have HB := n0_; clear n0_; (try clear hb); (try clear hb2); (try clear hk); (try clear hi)) | ((with_reducible refine gate_callee (f := 13) rfl ?_); refine goesL_ (some 13) rfl rfl Try.func13 (by kernel_rfl) rfl #[.int .i64 64] rfl (by (try simp only [List.map_toArray, List.map_cons, List.map_nil]); first | done | rfl | (simp only [List.length_drop, List.length_take]; rfl)) ?_; (with_reducible refine (chunk_Count.calls 64 t106 _ A3.out).mono ?_); rintro e w' ⟨rfl, ⟨nd, rfl⟩⟩; refine ⟨_, rfl, ?_⟩) | (go_at_call 13; (with_reducible refine (chunk_Count.calls 65 t107 _ A5.out).mono ?_); rintro e w' ⟨rfl, ⟨nd, rfl⟩⟩))
        go_ret
        exact ⟨by first | rfl | (simp [errW_none, errW_some] <;> rfl) | (simp [*, errW_none, errW_some] <;> rfl), by repeat (first | (with_reducible first | exact HB.out | apply below_alloc | apply pw_below_drewN | apply below_drew1) | exact HB.out)⟩
    · rw [if_neg c6] at H
      have c6b0 : (t107 == 2) = false := beq_eq_false_iff_ne.mpr c6
      have c6b1 : (t107 != 2) = true := bne_iff_ne.mpr c6
      obtain rfl := Option.some.inj H
      go_enter Try.func10, Try.ntmps10
      go_wp2_with (first | ((with_reducible refine gate_callee (f := 19) rfl ?_); refine goesL_ (some 6) rfl rfl Try.func19 (by kernel_rfl) rfl #[.int .i64 100, .int .i64 1] rfl (by (try simp only [List.map_toArray, List.map_cons, List.map_nil]); first | done | rfl | (simp only [List.length_drop, List.length_take]; rfl)) ?_; (with_reducible refine (chunk_Bounds.calls 100 1 t102 t103 _ A1.out).mono ?_); rintro e w18 ⟨rfl, hb⟩; refine ⟨_, rfl, ?_⟩; have n0_ := Aside0.mk (below_step (by repeat (first | (with_reducible first | exact HB.out | apply below_alloc | apply pw_below_drewN | apply below_drew1) | exact HB.out)) hb); clear HB; have HB := n0_; clear n0_; (try clear hb); (try clear hb2); (try clear hk); (try clear hi)) | ((with_reducible refine gate_callee (f := 9) rfl ?_); refine goesL_ (some 10) rfl rfl Try.func9 (by kernel_rfl) rfl #[.string (⟨#[97, 98]⟩ : ByteArray), .int .i64 3, .string (⟨#[120]⟩ : ByteArray)] rfl (by (try simp only [List.map_toArray, List.map_cons, List.map_nil]); first | done | rfl | (simp only [List.length_drop, List.length_take]; rfl)) ?_; (with_reducible refine (chunk_Write.calls (⟨#[97, 98]⟩ : ByteArray) 3 (⟨#[120]⟩ : ByteArray) t104 t105 _ A2.out).mono ?_); rintro e w19 ⟨rfl, hb⟩; refine ⟨_, rfl, ?_⟩; have n0_ := Aside0.mk (below_step (by repeat (first | (with_reducible first | exact HB.out | apply below_alloc | apply pw_below_drewN | apply below_drew1) | exact HB.out)) hb); clear HB; have HB := n0_; clear n0_; (try clear hb); (try clear hb2); (try clear hk); (try clear hi)) | ((with_reducible refine gate_callee (f := 13) rfl ?_); refine goesL_ (some 13) rfl rfl Try.func13 (by kernel_rfl) rfl #[.int .i64 64] rfl (by (try simp only [List.map_toArray, List.map_cons, List.map_nil]); first | done | rfl | (simp only [List.length_drop, List.length_take]; rfl)) ?_; (with_reducible refine (chunk_Count.calls 64 t106 _ A3.out).mono ?_); rintro e w' ⟨rfl, ⟨nd, rfl⟩⟩; refine ⟨_, rfl, ?_⟩) | (go_at_call 13; (with_reducible refine (chunk_Count.calls 65 t107 _ A5.out).mono ?_); rintro e w' ⟨rfl, ⟨nd, rfl⟩⟩))
      go_ret
      exact ⟨by first | rfl | (simp [errW_none, errW_some] <;> rfl) | (simp [*, errW_none, errW_some] <;> rfl), by repeat (first | (with_reducible first | exact HB.out | apply below_alloc | apply pw_below_drewN | apply below_drew1) | exact HB.out)⟩
  · rw [if_neg c4] at H
    have c4b0 : (t106 == 1) = false := beq_eq_false_iff_ne.mpr c4
    have c4b1 : (t106 != 1) = true := bne_iff_ne.mpr c4
    obtain rfl := Option.some.inj H
    go_enter Try.func10, Try.ntmps10
    go_wp2_with (first | ((with_reducible refine gate_callee (f := 19) rfl ?_); refine goesL_ (some 6) rfl rfl Try.func19 (by kernel_rfl) rfl #[.int .i64 100, .int .i64 1] rfl (by (try simp only [List.map_toArray, List.map_cons, List.map_nil]); first | done | rfl | (simp only [List.length_drop, List.length_take]; rfl)) ?_; (with_reducible refine (chunk_Bounds.calls 100 1 t102 t103 _ A1.out).mono ?_); rintro e w20 ⟨rfl, hb⟩; refine ⟨_, rfl, ?_⟩; have n0_ := Aside0.mk (below_step (by repeat (first | (with_reducible first | exact HB.out | apply below_alloc | apply pw_below_drewN | apply below_drew1) | exact HB.out)) hb); clear HB; have HB := n0_; clear n0_; (try clear hb); (try clear hb2); (try clear hk); (try clear hi)) | ((with_reducible refine gate_callee (f := 9) rfl ?_); refine goesL_ (some 10) rfl rfl Try.func9 (by kernel_rfl) rfl #[.string (⟨#[97, 98]⟩ : ByteArray), .int .i64 3, .string (⟨#[120]⟩ : ByteArray)] rfl (by (try simp only [List.map_toArray, List.map_cons, List.map_nil]); first | done | rfl | (simp only [List.length_drop, List.length_take]; rfl)) ?_; (with_reducible refine (chunk_Write.calls (⟨#[97, 98]⟩ : ByteArray) 3 (⟨#[120]⟩ : ByteArray) t104 t105 _ A2.out).mono ?_); rintro e w21 ⟨rfl, hb⟩; refine ⟨_, rfl, ?_⟩; have n0_ := Aside0.mk (below_step (by repeat (first | (with_reducible first | exact HB.out | apply below_alloc | apply pw_below_drewN | apply below_drew1) | exact HB.out)) hb); clear HB; have HB := n0_; clear n0_; (try clear hb); (try clear hb2); (try clear hk); (try clear hi)) | ((with_reducible refine gate_callee (f := 13) rfl ?_); refine goesL_ (some 13) rfl rfl Try.func13 (by kernel_rfl) rfl #[.int .i64 64] rfl (by (try simp only [List.map_toArray, List.map_cons, List.map_nil]); first | done | rfl | (simp only [List.length_drop, List.length_take]; rfl)) ?_; (with_reducible refine (chunk_Count.calls 64 t106 _ A3.out).mono ?_); rintro e w' ⟨rfl, ⟨nd, rfl⟩⟩; refine ⟨_, rfl, ?_⟩))
    go_ret
    exact ⟨by first | rfl | (simp [errW_none, errW_some] <;> rfl) | (simp [*, errW_none, errW_some] <;> rfl), by repeat (first | (with_reducible first | exact HB.out | apply below_alloc | apply pw_below_drewN | apply below_drew1) | exact HB.out)⟩

/-! ### chunk_Read: function 11 -/
def chunk_Read.f (a0 : ByteArray) (a1 : Int) (a2 : Int) : Option (ByteArray × Int) :=
  if (a0.size : Int) > 4096 then (some ((⟨#[]⟩ : ByteArray), 3)) else (if a1 < 0 then (some ((⟨#[]⟩ : ByteArray), 2)) else (if a2 < 0 then (some ((⟨#[]⟩ : ByteArray), 2)) else (if a1 > (a0.size : Int) then (some ((⟨#[]⟩ : ByteArray), 2)) else (some ((a0.extract a1.toNat a0.size).extract 0 (min a2.toNat (a0.size - a1.toNat)), 0)))))
set_option maxHeartbeats 1000000 in
theorem chunk_Read.calls (a0 : ByteArray) (a1 : Int) (a2 : Int) (r1 : ByteArray) (r2 : Int) (w : World) (h : chunk_Read.f a0 a1 a2 = some (r1, r2)) :
    Calls Try.prog 11 #[.string a0, .int .i64 a1, .int .i64 a2] w fun e w' => e = .returned (.tuple #[.string r1, .int .i64 r2]) ∧ Below w.heap.size w w' := by
  unfold chunk_Read.f at h
  by_cases c1 : (a0.size : Int) > 4096
  · rw [if_pos c1] at h
    simp only [Option.some.injEq, Prod.mk.injEq] at h
    obtain ⟨rfl, rfl⟩ := h
    have c1b : decide (4096 < a0.size) = true := decide_eq_true (by omega)
    go_enter Try.func11, Try.ntmps11
    go_wp2
    go_ret2
    exact ⟨rfl, Below.refl _ _⟩
  rw [if_neg c1] at h
  have c1b : decide (4096 < a0.size) = false := decide_eq_false (by omega)
  by_cases c2 : a1 < 0
  · rw [if_pos c2] at h
    simp only [Option.some.injEq, Prod.mk.injEq] at h
    obtain ⟨rfl, rfl⟩ := h
    go_enter Try.func11, Try.ntmps11
    go_wp2
    go_ret2
    exact ⟨rfl, Below.refl _ _⟩
  rw [if_neg c2] at h
  by_cases c3 : a2 < 0
  · rw [if_pos c3] at h
    simp only [Option.some.injEq, Prod.mk.injEq] at h
    obtain ⟨rfl, rfl⟩ := h
    go_enter Try.func11, Try.ntmps11
    go_wp2
    go_ret2
    exact ⟨rfl, Below.refl _ _⟩
  rw [if_neg c3] at h
  by_cases c4 : a1 > (a0.size : Int)
  · rw [if_pos c4] at h
    simp only [Option.some.injEq, Prod.mk.injEq] at h
    obtain ⟨rfl, rfl⟩ := h
    go_enter Try.func11, Try.ntmps11
    go_wp2
    go_ret2
    exact ⟨rfl, Below.refl _ _⟩
  rw [if_neg c4] at h
  obtain ⟨off, rfl⟩ := Int.eq_ofNat_of_zero_le (show 0 ≤ a1 by omega)
  obtain ⟨n, rfl⟩ := Int.eq_ofNat_of_zero_le (show 0 ≤ a2 by omega)
  simp only [Option.some.injEq, Prod.mk.injEq, Int.toNat_natCast] at h
  obtain ⟨rfl, rfl⟩ := h
  have c4b : decide (a0.size < off) = false := decide_eq_false (by omega)
  obtain ⟨k, hk⟩ : ∃ k : Nat, min n (a0.size - off) = k := ⟨_, rfl⟩
  have hmi : (if (a0.size : Int) - (off : Int) < (n : Int) then (a0.size : Int) - (off : Int) else (n : Int)) = (k : Int) := by split <;> omega
  obtain ⟨t, ht⟩ : ∃ t, a0.extract off a0.size = t := ⟨_, rfl⟩
  have hts : t.size = a0.size - off := by rw [← ht]; simp
  have h1 : ∀ W : World, (Instr.slice 9 (.string a0) (some (.int .i64 (off : Int))) none none).run Try.prog W = .ok (.string t) W := by
    intro W
    rw [run_slice_string_l W 9 a0 Try.underlying9 .i64 (off : Int) (by omega) (by omega), Int.toNat_natCast, ht]
  have h2 : ∀ W : World, (Instr.slice 9 (.string t) none (some (.int .i64 (k : Int))) none).run Try.prog W = .ok (.string (t.extract 0 k)) W := by
    intro W
    rw [run_slice_string_h W 9 t Try.underlying9 .i64 (k : Int) (by omega) (by omega), Int.toNat_natCast]
  rw [ht, hk]
  clear ht hk hts
  go_enter Try.func11, Try.ntmps11
  go_wp2
  go_ret2
  exact ⟨rfl, Below.refl _ _⟩


/-! ### aquiferlaw15_ChunkReads: function 3 -/
mutual
def aquiferlaw15_ChunkReads.j0 : Nat → ByteArray → Int → ByteArray → ByteArray → Bool → Option (Bool)
  | 0, _, _, _, _, _ => none
  | k + 1, x0, x1, x2, x7, x57 => if x57 = true then (some false) else (aquiferlaw15_ChunkReads.l0 k x0 x1 x2 x7 (x7.size : Int) 0)
def aquiferlaw15_ChunkReads.l0 : Nat → ByteArray → Int → ByteArray → ByteArray → Int → Int → Option (Bool)
  | 0, _, _, _, _, _, _ => none
  | k + 1, x0, x1, x2, x7, x59, x60 => if x60 < x59 then (if x60 < (x0.size : Int) then (if 0 ≤ x60 then (if x60 < x1 then (if x60 < (x7.size : Int) then (if (bt x7 x60) = (bt x0 x60) then (aquiferlaw15_ChunkReads.l0 k x0 x1 x2 x7 x59 (wrap64 (x60 + 1))) else (some false)) else (none)) else (if x60 ≥ (wrap64 (x1 + (x2.size : Int))) then (if x60 < (x7.size : Int) then (if (bt x7 x60) = (bt x0 x60) then (aquiferlaw15_ChunkReads.l0 k x0 x1 x2 x7 x59 (wrap64 (x60 + 1))) else (some false)) else (none)) else (aquiferlaw15_ChunkReads.l0 k x0 x1 x2 x7 x59 (wrap64 (x60 + 1))))) else (none)) else (if x60 < x1 then (if 0 ≤ x60 then (if x60 < (x7.size : Int) then (if (bt x7 x60) = 0 then (aquiferlaw15_ChunkReads.l0 k x0 x1 x2 x7 x59 (wrap64 (x60 + 1))) else (some false)) else (none)) else (none)) else (if x60 ≥ (wrap64 (x1 + (x2.size : Int))) then (if 0 ≤ x60 then (if x60 < (x7.size : Int) then (if (bt x7 x60) = 0 then (aquiferlaw15_ChunkReads.l0 k x0 x1 x2 x7 x59 (wrap64 (x60 + 1))) else (some false)) else (none)) else (none)) else (aquiferlaw15_ChunkReads.l0 k x0 x1 x2 x7 x59 (wrap64 (x60 + 1)))))) else ((aquiferlaw15_works.f).bind fun t115 => (some t115))
end
def aquiferlaw15_ChunkReads.f (k : Nat) (a0 : ByteArray) (a1 : Int) (a2 : ByteArray) : Option (Bool) := (aquiferlaw15_few.f a0).bind fun t108 => ((aquiferlaw15_few.f a2).bind fun t109 => ((chunk_Write.f t108 a1 t109).bind fun bt110 => (if bt110.2 = 0 then ((chunk_Read.f bt110.1 a1 (t109.size : Int)).bind fun bt113 => (if bt113.1.toList = t109.toList then (if bt113.2 = 0 then (aquiferlaw15_ChunkReads.j0 k t108 a1 t109 bt110.1 ((bt110.1.size : Int) != (mx (t108.size : Int) (wrap64 (a1 + (t109.size : Int)))))) else (aquiferlaw15_ChunkReads.j0 k t108 a1 t109 bt110.1 true)) else (aquiferlaw15_ChunkReads.j0 k t108 a1 t109 bt110.1 true))) else (if bt110.1.toList = ([] : List UInt8) then ((aquiferlaw15_works.f).bind fun t112 => (some t112)) else (some false)))))
theorem aquiferlaw15_ChunkReads.mono_l : ∀ k, (∀ y0 y1 y2 y3 y4, LeO (aquiferlaw15_ChunkReads.j0 k y0 y1 y2 y3 y4) (aquiferlaw15_ChunkReads.j0 (k + 1) y0 y1 y2 y3 y4)) ∧ (∀ y0 y1 y2 y3 y4 y5, LeO (aquiferlaw15_ChunkReads.l0 k y0 y1 y2 y3 y4 y5) (aquiferlaw15_ChunkReads.l0 (k + 1) y0 y1 y2 y3 y4 y5))
  | 0 => ⟨fun _ _ _ _ _ r h => by simp [aquiferlaw15_ChunkReads.j0] at h, fun _ _ _ _ _ _ r h => by simp [aquiferlaw15_ChunkReads.l0] at h⟩
  | k + 1 => by
    obtain ⟨ih0, ih1⟩ := aquiferlaw15_ChunkReads.mono_l k
    refine ⟨?_, ?_⟩
    · intro y0 y1 y2 y3 y4
      unfold aquiferlaw15_ChunkReads.j0
      repeat' first
      | (with_reducible exact ih0 _ _ _ _ _)
      | (with_reducible exact ih1 _ _ _ _ _ _)
      | (with_reducible exact LeO.refl _)
      | (with_reducible exact LeO.none _)
      | (with_reducible refine LeO.ite ?_ ?_)
      | (with_reducible refine LeO.bind ?_ (fun _ => ?_))
      | exact ih0 _ _ _ _ _
      | exact ih1 _ _ _ _ _ _
      | exact LeO.none _
      | refine LeO.ite ?_ ?_
      | refine LeO.bind ?_ (fun _ => ?_)
    · intro y0 y1 y2 y3 y4 y5
      unfold aquiferlaw15_ChunkReads.l0
      repeat' first
      | (with_reducible exact ih0 _ _ _ _ _)
      | (with_reducible exact ih1 _ _ _ _ _ _)
      | (with_reducible exact LeO.refl _)
      | (with_reducible exact LeO.none _)
      | (with_reducible refine LeO.ite ?_ ?_)
      | (with_reducible refine LeO.bind ?_ (fun _ => ?_))
      | exact ih0 _ _ _ _ _
      | exact ih1 _ _ _ _ _ _
      | exact LeO.none _
      | refine LeO.ite ?_ ?_
      | refine LeO.bind ?_ (fun _ => ?_)
theorem aquiferlaw15_ChunkReads.mono : ∀ a0 a1 a2 k, LeO (aquiferlaw15_ChunkReads.f k a0 a1 a2) (aquiferlaw15_ChunkReads.f (k + 1) a0 a1 a2) := by
  intro a0 a1 a2 k
  obtain ⟨ih0, ih1⟩ := aquiferlaw15_ChunkReads.mono_l k
  unfold aquiferlaw15_ChunkReads.f
  repeat' first
      | (with_reducible exact ih0 _ _ _ _ _)
      | (with_reducible exact ih1 _ _ _ _ _ _)
      | (with_reducible exact LeO.refl _)
      | (with_reducible exact LeO.none _)
      | (with_reducible refine LeO.ite ?_ ?_)
      | (with_reducible refine LeO.bind ?_ (fun _ => ?_))
      | exact ih0 _ _ _ _ _
      | exact ih1 _ _ _ _ _ _
      | exact LeO.none _
      | refine LeO.ite ?_ ?_
      | refine LeO.bind ?_ (fun _ => ?_)
set_option maxHeartbeats 8000000 in
set_option maxRecDepth 100000 in
theorem aquiferlaw15_ChunkReads.calls (k : Nat) (a0 : ByteArray) (a1 : Int) (a2 : ByteArray) (r : Bool) (w : World) (h : aquiferlaw15_ChunkReads.f k a0 a1 a2 = some r) :
    Calls Try.prog 3 #[.string a0, .int .i64 a1, .string a2] w fun e w' => e = .returned (.bool r) ∧ Below w.heap.size w w' := by
  have HB := Aside0.mk (Below.refl w.heap.size w)
  have H : ((aquiferlaw15_few.f a0).bind fun t108 => ((aquiferlaw15_few.f a2).bind fun t109 => ((chunk_Write.f t108 a1 t109).bind fun bt110 => (if bt110.2 = 0 then ((chunk_Read.f bt110.1 a1 (t109.size : Int)).bind fun bt113 => (if bt113.1.toList = t109.toList then (if bt113.2 = 0 then (aquiferlaw15_ChunkReads.j0 k t108 a1 t109 bt110.1 ((bt110.1.size : Int) != (mx (t108.size : Int) (wrap64 (a1 + (t109.size : Int)))))) else (aquiferlaw15_ChunkReads.j0 k t108 a1 t109 bt110.1 true)) else (aquiferlaw15_ChunkReads.j0 k t108 a1 t109 bt110.1 true))) else (if bt110.1.toList = ([] : List UInt8) then ((aquiferlaw15_works.f).bind fun t112 => (some t112)) else (some false)))))) = some r := h
  clear h
  replace H := Option.bind_eq_some_iff.mp H
  obtain ⟨t108, A40, H⟩ := H
  replace H : ((aquiferlaw15_few.f a2).bind fun t109 => ((chunk_Write.f t108 a1 t109).bind fun bt110 => (if bt110.2 = 0 then ((chunk_Read.f bt110.1 a1 (t109.size : Int)).bind fun bt113 => (if bt113.1.toList = t109.toList then (if bt113.2 = 0 then (aquiferlaw15_ChunkReads.j0 k t108 a1 t109 bt110.1 ((bt110.1.size : Int) != (mx (t108.size : Int) (wrap64 (a1 + (t109.size : Int)))))) else (aquiferlaw15_ChunkReads.j0 k t108 a1 t109 bt110.1 true)) else (aquiferlaw15_ChunkReads.j0 k t108 a1 t109 bt110.1 true))) else (if bt110.1.toList = ([] : List UInt8) then ((aquiferlaw15_works.f).bind fun t112 => (some t112)) else (some false))))) = some r := H
  have A4 := Aside0.mk A40
  clear A40
  replace H := Option.bind_eq_some_iff.mp H
  obtain ⟨t109, A50, H⟩ := H
  replace H : ((chunk_Write.f t108 a1 t109).bind fun bt110 => (if bt110.2 = 0 then ((chunk_Read.f bt110.1 a1 (t109.size : Int)).bind fun bt113 => (if bt113.1.toList = t109.toList then (if bt113.2 = 0 then (aquiferlaw15_ChunkReads.j0 k t108 a1 t109 bt110.1 ((bt110.1.size : Int) != (mx (t108.size : Int) (wrap64 (a1 + (t109.size : Int)))))) else (aquiferlaw15_ChunkReads.j0 k t108 a1 t109 bt110.1 true)) else (aquiferlaw15_ChunkReads.j0 k t108 a1 t109 bt110.1 true))) else (if bt110.1.toList = ([] : List UInt8) then ((aquiferlaw15_works.f).bind fun t112 => (some t112)) else (some false)))) = some r := H
  have A5 := Aside0.mk A50
  clear A50
  replace H := Option.bind_eq_some_iff.mp H
  obtain ⟨⟨t110, t111⟩, A60, H⟩ := H
  replace H : (if t111 = 0 then ((chunk_Read.f t110 a1 (t109.size : Int)).bind fun bt113 => (if bt113.1.toList = t109.toList then (if bt113.2 = 0 then (aquiferlaw15_ChunkReads.j0 k t108 a1 t109 t110 ((t110.size : Int) != (mx (t108.size : Int) (wrap64 (a1 + (t109.size : Int)))))) else (aquiferlaw15_ChunkReads.j0 k t108 a1 t109 t110 true)) else (aquiferlaw15_ChunkReads.j0 k t108 a1 t109 t110 true))) else (if t110.toList = ([] : List UInt8) then ((aquiferlaw15_works.f).bind fun t112 => (some t112)) else (some false))) = some r := H
  have A6 := Aside0.mk A60
  clear A60
  by_cases c7 : t111 = 0
  · rw [if_pos c7] at H
    have c7b0 : (t111 == 0) = true := beq_iff_eq.mpr c7
    have c7b1 : (t111 != 0) = false := bne_eq_false_iff_eq.mpr c7
    clear c7
    replace H := Option.bind_eq_some_iff.mp H
    obtain ⟨⟨t113, t114⟩, A80, H⟩ := H
    replace H : (if t113.toList = t109.toList then (if t114 = 0 then (aquiferlaw15_ChunkReads.j0 k t108 a1 t109 t110 ((t110.size : Int) != (mx (t108.size : Int) (wrap64 (a1 + (t109.size : Int)))))) else (aquiferlaw15_ChunkReads.j0 k t108 a1 t109 t110 true)) else (aquiferlaw15_ChunkReads.j0 k t108 a1 t109 t110 true)) = some r := H
    have A8 := Aside0.mk A80
    clear A80
    have HC9 := Aside0.mk H
    clear H
    go_enter Try.func3, Try.ntmps3
    go_upto_region 6 with (first | ((with_reducible refine gate_callee (f := 8) rfl ?_); refine goesL_ (some 14) rfl rfl Try.func8 (by kernel_rfl) rfl #[.string a0] rfl (by (try simp only [List.map_toArray, List.map_cons, List.map_nil]); first | done | rfl | (simp only [List.length_drop, List.length_take]; rfl)) ?_; (with_reducible refine (aquiferlaw15_few.calls a0 t108 _ A4.out).mono ?_); rintro e w10 ⟨rfl, hb⟩; refine ⟨_, rfl, ?_⟩; have n0_ := Aside0.mk (below_step (by repeat (first | (with_reducible first | exact HB.out | apply below_alloc | apply pw_below_drewN | apply below_drew1) | exact HB.out)) hb); clear HB; have HB := n0_; clear n0_; (try clear hb); (try clear hb2); (try clear hk); (try clear hi)) | ((with_reducible refine gate_callee (f := 8) rfl ?_); refine goesL_ (some 16) rfl rfl Try.func8 (by kernel_rfl) rfl #[.string a2] rfl (by (try simp only [List.map_toArray, List.map_cons, List.map_nil]); first | done | rfl | (simp only [List.length_drop, List.length_take]; rfl)) ?_; (with_reducible refine (aquiferlaw15_few.calls a2 t109 _ A5.out).mono ?_); rintro e w11 ⟨rfl, hb⟩; refine ⟨_, rfl, ?_⟩; have n0_ := Aside0.mk (below_step (by repeat (first | (with_reducible first | exact HB.out | apply below_alloc | apply pw_below_drewN | apply below_drew1) | exact HB.out)) hb); clear HB; have HB := n0_; clear n0_; (try clear hb); (try clear hb2); (try clear hk); (try clear hi)) | ((with_reducible refine gate_callee (f := 9) rfl ?_); refine goesL_ (some 21) rfl rfl Try.func9 (by kernel_rfl) rfl #[.string t108, .int .i64 a1, .string t109] rfl (by (try simp only [List.map_toArray, List.map_cons, List.map_nil]); first | done | rfl | (simp only [List.length_drop, List.length_take]; rfl)) ?_; (with_reducible refine (chunk_Write.calls t108 a1 t109 t110 t111 _ A6.out).mono ?_); rintro e w12 ⟨rfl, hb⟩; refine ⟨_, rfl, ?_⟩; have n0_ := Aside0.mk (below_step (by repeat (first | (with_reducible first | exact HB.out | apply below_alloc | apply pw_below_drewN | apply below_drew1) | exact HB.out)) hb); clear HB; have HB := n0_; clear n0_; (try clear hb); (try clear hb2); (try clear hk); (try clear hi)) | ((with_reducible refine gate_callee (f := 11) rfl ?_); refine goesL_ (some 36) rfl rfl Try.func11 (by kernel_rfl) rfl #[.string t110, .int .i64 a1, .int .i64 (t109.size : Int)] rfl (by (try simp only [List.map_toArray, List.map_cons, List.map_nil]); first | done | rfl | (simp only [List.length_drop, List.length_take]; rfl)) ?_; (with_reducible refine (chunk_Read.calls t110 a1 (t109.size : Int) t113 t114 _ A8.out).mono ?_); rintro e w13 ⟨rfl, hb⟩; refine ⟨_, rfl, ?_⟩; have n0_ := Aside0.mk (below_step (by repeat (first | (with_reducible first | exact HB.out | apply below_alloc | apply pw_below_drewN | apply below_drew1) | exact HB.out)) hb); clear HB; have HB := n0_; clear n0_; (try clear hb); (try clear hb2); (try clear hk); (try clear hi)))
    (try simp only [Act.put, List.setIfInBounds_toArray, List.set_cons_zero, List.set_cons_succ])
    go_cut [57] (fun v57 wc => ∃ (kq : Nat) (x57_8 : Bool), v57 = .bool x57_8 ∧ Aside0 (aquiferlaw15_ChunkReads.j0 kq t108 a1 t109 t110 x57_8 = some r) ∧ Aside0 (kq ≤ k) ∧ Aside0 (Below w.heap.size w wc))
    case first =>
      have H := HC9.out
      clear HC9
      by_cases c14 : t113.toList = t109.toList
      · rw [if_pos c14] at H
        have c14b0 : (t113.toList == t109.toList) = true := beq_iff_eq.mpr c14
        have c14b1 : (t113.toList != t109.toList) = false := bne_eq_false_iff_eq.mpr c14
        clear c14
        (first | rw [c14b0] | (simp only [i64_w, i32_w]; rw [c14b0]) | skip)
        by_cases c15 : t114 = 0
        · rw [if_pos c15] at H
          have c15b0 : (t114 == 0) = true := beq_iff_eq.mpr c15
          have c15b1 : (t114 != 0) = false := bne_eq_false_iff_eq.mpr c15
          clear c15
          obtain ⟨ji16, hji16⟩ : ∃ j_ : Int, (mx (t108.size : Int) (wrap64 (a1 + (t109.size : Int)))) = j_ := ⟨_, rfl⟩
          replace H : (aquiferlaw15_ChunkReads.j0 k t108 a1 t109 t110 ((t110.size : Int) != (ji16))) = some r := by first | (rw [hji16] at H; exact H) | (simp only [hji16] at H ⊢; exact H)
          (try (have hji16l : 0 ≤ ji16 := by (rw [← hji16]; unfold mx; (repeat' split) <;> omega)))
          (try (have hji16m : 0 ≤ ji16 := by omega))
          have hji16_ : (if (t108.size : Int) < (wrap64 (a1 + (t109.size : Int))) then (wrap64 (a1 + (t109.size : Int))) else (t108.size : Int)) = ji16 := hji16
          have H' := Aside0.mk H
          clear H
          go_wp2
          go_meet
          case rel => exact ⟨_, (((t110.size : Int) != (ji16))), (by first | rfl | (simp; done) | (simp only [← hji16] <;> (first | rfl | simp)) | (simp [*]; done)), H', ⟨by first | omega | exact Nat.le_refl _⟩, ⟨by repeat (first | (with_reducible first | exact HB.out | apply below_alloc | apply pw_below_drewN | apply below_drew1) | exact HB.out)⟩⟩
        · rw [if_neg c15] at H
          have c15b0 : (t114 == 0) = false := beq_eq_false_iff_ne.mpr c15
          have c15b1 : (t114 != 0) = true := bne_iff_ne.mpr c15
          have H' := Aside0.mk H
          clear H
          go_wp2
          go_meet
          case rel => exact ⟨_, (true), (by first | rfl | (simp; done) | (simp [*]; done)), H', ⟨by first | omega | exact Nat.le_refl _⟩, ⟨by repeat (first | (with_reducible first | exact HB.out | apply below_alloc | apply pw_below_drewN | apply below_drew1) | exact HB.out)⟩⟩
      · rw [if_neg c14] at H
        have c14b0 : (t113.toList == t109.toList) = false := beq_eq_false_iff_ne.mpr c14
        have c14b1 : (t113.toList != t109.toList) = true := bne_iff_ne.mpr c14
        (first | rw [c14b0] | (simp only [i64_w, i32_w]; rw [c14b0]) | skip)
        have H' := Aside0.mk H
        clear H
        go_wp2
        go_meet
        case rel => exact ⟨_, (true), (by first | rfl | (simp; done) | (simp [*]; done)), H', ⟨by first | omega | exact Nat.le_refl _⟩, ⟨by repeat (first | (with_reducible first | exact HB.out | apply below_alloc | apply pw_below_drewN | apply below_drew1) | exact HB.out)⟩⟩
    case rest =>
      clear HC9
      try clear c1
      try clear p2
      try clear c3
      try clear p6
      try clear c7
      try clear c7b0
      try clear c7b1
      try clear c8
      try clear c9
      try clear c11
      try clear c14
      try clear c14b0
      try clear c14b1
      try clear c15
      try clear c15b0
      try clear c15b1
      obtain ⟨kq, x57_8, rfl, HA, HJ8, HB⟩ := hcut
      cases kq with
      | zero => exact absurd HA.out (by simp [aquiferlaw15_ChunkReads.j0])
      | succ kj8 =>
        have H := HA.out
        clear HA
        simp only [aquiferlaw15_ChunkReads.j0] at H
        by_cases c17 : x57_8 = true
        · subst c17
          have H1 : (some false) = some r := by rw [if_pos rfl] at H; exact H
          clear H
          have H := H1
          clear H1
          obtain rfl := Option.some.inj H
          go_wp2
          go_ret
          exact ⟨by first | rfl | (simp [errW_none, errW_some] <;> rfl) | (simp [*, errW_none, errW_some] <;> rfl), by repeat (first | (with_reducible first | exact HB.out | apply below_alloc | apply pw_below_drewN | apply below_drew1) | exact HB.out)⟩
        · replace c17 := Bool.eq_false_iff.mpr c17
          subst c17
          have H1 : (aquiferlaw15_ChunkReads.l0 kj8 t108 a1 t109 t110 (t110.size : Int) 0) = some r := by rw [if_neg (show ¬ (false = true) by decide)] at H; exact H
          clear H
          have H := H1
          clear H1
          have H' := Aside0.mk H
          clear H
          go_wp2
          go_loopg [60] kj8 (fun kq v60 w' => ∃ (x60_2 : Int), v60 = .int .i64 x60_2 ∧ Aside0 (aquiferlaw15_ChunkReads.l0 kq t108 a1 t109 t110 (t110.size : Int) x60_2 = some r) ∧ Aside0 (kq ≤ kj8) ∧ Aside0 (Below w.heap.size w w'))
          case atStart => exact ⟨(0), (by first | rfl | (simp; done) | (simp [*]; done)), H', ⟨Nat.le_refl _⟩, ⟨by repeat (first | (with_reducible first | exact HB.out | apply below_alloc | apply pw_below_drewN | apply below_drew1) | exact HB.out)⟩⟩
          case round =>
            clear H'
            try clear c1
            try clear p2
            try clear c3
            try clear p6
            try clear c7
            try clear c7b0
            try clear c7b1
            try clear c8
            try clear c9
            try clear c11
            try clear c14
            try clear c14b0
            try clear c14b1
            try clear c15
            try clear c15b0
            try clear c15b1
            try clear c17
            try clear p2
            try clear p6
            obtain ⟨x60_2, rfl, HA, HK2, HB⟩ := hrel
            cases gk with
            | zero => exact absurd HA.out (by simp [aquiferlaw15_ChunkReads.l0])
            | succ k2 =>
              have H := HA.out
              clear HA
              simp only [aquiferlaw15_ChunkReads.l0] at H
              by_cases c18 : x60_2 < (t110.size : Int)
              · rw [if_pos c18] at H
                have c18b0 : decide (x60_2 < (t110.size : Int)) = true := decide_eq_true c18
                clear c18
                by_cases c19 : x60_2 < (t108.size : Int)
                · rw [if_pos c19] at H
                  have c19b0 : decide (x60_2 < (t108.size : Int)) = true := decide_eq_true c19
                  clear c19
                  by_cases c20 : 0 ≤ x60_2
                  · rw [if_pos c20] at H
                    have c20b0 : decide (0 ≤ x60_2) = true := decide_eq_true c20
                    clear c20
                    by_cases c22 : x60_2 < a1
                    · rw [if_pos c22] at H
                      have c22b0 : decide (x60_2 < a1) = true := decide_eq_true c22
                      clear c22
                      by_cases c23 : x60_2 < (t110.size : Int)
                      · rw [if_pos c23] at H
                        have c23b0 : decide (x60_2 < (t110.size : Int)) = true := decide_eq_true c23
                        clear c23
                        by_cases c25 : (bt t110 x60_2) = (bt t108 x60_2)
                        · rw [if_pos c25] at H
                          have c25b0 : ((bt t110 x60_2) == (bt t108 x60_2)) = true := beq_iff_eq.mpr c25
                          have c25b1 : ((bt t110 x60_2) != (bt t108 x60_2)) = false := bne_eq_false_iff_eq.mpr c25
                          clear c25
                          have H' := Aside0.mk H
                          clear H
                          have p21 : 0 ≤ (x60_2 : Int) := of_decide_eq_true (by first | (with_reducible assumption) | assumption)
                          have q21 : x60_2 < (t108.size : Int) := of_decide_eq_true (by first | (with_reducible assumption) | assumption)
                          have hx21 := bt_at t108 x60_2
                          replace p21 := eq_true p21
                          replace q21 := eq_true q21
                          have p24 : 0 ≤ (x60_2 : Int) := of_decide_eq_true (by first | (with_reducible assumption) | assumption)
                          have q24 : x60_2 < (t110.size : Int) := of_decide_eq_true (by first | (with_reducible assumption) | assumption)
                          have hx24 := bt_at t110 x60_2
                          replace p24 := eq_true p24
                          replace q24 := eq_true q24
                          go_wp2
                          go_roundg k2
                          case measure => have := HJ8.out; have := HK2.out; omega
                          case rel => exact ⟨(wrap64 (x60_2 + 1)), (by first | rfl | (simp; done) | (simp [*]; done)), H', ⟨by have := HJ8.out; have := HK2.out; omega⟩, ⟨by repeat (first | (with_reducible first | exact HB.out | apply below_alloc | apply pw_below_drewN | apply below_drew1) | exact HB.out)⟩⟩
                        · rw [if_neg c25] at H
                          have c25b0 : ((bt t110 x60_2) == (bt t108 x60_2)) = false := beq_eq_false_iff_ne.mpr c25
                          have c25b1 : ((bt t110 x60_2) != (bt t108 x60_2)) = true := bne_iff_ne.mpr c25
                          obtain rfl := Option.some.inj H
                          have p21 : 0 ≤ (x60_2 : Int) := of_decide_eq_true (by first | (with_reducible assumption) | assumption)
                          have q21 : x60_2 < (t108.size : Int) := of_decide_eq_true (by first | (with_reducible assumption) | assumption)
                          have hx21 := bt_at t108 x60_2
                          replace p21 := eq_true p21
                          replace q21 := eq_true q21
                          have p24 : 0 ≤ (x60_2 : Int) := of_decide_eq_true (by first | (with_reducible assumption) | assumption)
                          have q24 : x60_2 < (t110.size : Int) := of_decide_eq_true (by first | (with_reducible assumption) | assumption)
                          have hx24 := bt_at t110 x60_2
                          replace p24 := eq_true p24
                          replace q24 := eq_true q24
                          go_wp2
                          go_ret
                          exact ⟨by first | rfl | (simp [errW_none, errW_some] <;> rfl) | (simp [*, errW_none, errW_some] <;> rfl), by repeat (first | (with_reducible first | exact HB.out | apply below_alloc | apply pw_below_drewN | apply below_drew1) | exact HB.out)⟩
                      · rw [if_neg c23] at H
                        exact absurd H (by simp)
                    · rw [if_neg c22] at H
                      have c22b0 : decide (x60_2 < a1) = false := decide_eq_false c22
                      clear c22
                      by_cases c26 : x60_2 ≥ (wrap64 (a1 + (t109.size : Int)))
                      · rw [if_pos c26] at H
                        have c26b0 : decide ((wrap64 (a1 + (t109.size : Int))) ≤ x60_2) = true := decide_eq_true c26
                        clear c26
                        by_cases c27 : x60_2 < (t110.size : Int)
                        · rw [if_pos c27] at H
                          have c27b0 : decide (x60_2 < (t110.size : Int)) = true := decide_eq_true c27
                          clear c27
                          by_cases c29 : (bt t110 x60_2) = (bt t108 x60_2)
                          · rw [if_pos c29] at H
                            have c29b0 : ((bt t110 x60_2) == (bt t108 x60_2)) = true := beq_iff_eq.mpr c29
                            have c29b1 : ((bt t110 x60_2) != (bt t108 x60_2)) = false := bne_eq_false_iff_eq.mpr c29
                            clear c29
                            have H' := Aside0.mk H
                            clear H
                            have p21 : 0 ≤ (x60_2 : Int) := of_decide_eq_true (by first | (with_reducible assumption) | assumption)
                            have q21 : x60_2 < (t108.size : Int) := of_decide_eq_true (by first | (with_reducible assumption) | assumption)
                            have hx21 := bt_at t108 x60_2
                            replace p21 := eq_true p21
                            replace q21 := eq_true q21
                            have p28 : 0 ≤ (x60_2 : Int) := of_decide_eq_true (by first | (with_reducible assumption) | assumption)
                            have q28 : x60_2 < (t110.size : Int) := of_decide_eq_true (by first | (with_reducible assumption) | assumption)
                            have hx28 := bt_at t110 x60_2
                            replace p28 := eq_true p28
                            replace q28 := eq_true q28
                            go_wp2
                            go_roundg k2
                            case measure => have := HJ8.out; have := HK2.out; omega
                            case rel => exact ⟨(wrap64 (x60_2 + 1)), (by first | rfl | (simp; done) | (simp [*]; done)), H', ⟨by have := HJ8.out; have := HK2.out; omega⟩, ⟨by repeat (first | (with_reducible first | exact HB.out | apply below_alloc | apply pw_below_drewN | apply below_drew1) | exact HB.out)⟩⟩
                          · rw [if_neg c29] at H
                            have c29b0 : ((bt t110 x60_2) == (bt t108 x60_2)) = false := beq_eq_false_iff_ne.mpr c29
                            have c29b1 : ((bt t110 x60_2) != (bt t108 x60_2)) = true := bne_iff_ne.mpr c29
                            obtain rfl := Option.some.inj H
                            have p21 : 0 ≤ (x60_2 : Int) := of_decide_eq_true (by first | (with_reducible assumption) | assumption)
                            have q21 : x60_2 < (t108.size : Int) := of_decide_eq_true (by first | (with_reducible assumption) | assumption)
                            have hx21 := bt_at t108 x60_2
                            replace p21 := eq_true p21
                            replace q21 := eq_true q21
                            have p28 : 0 ≤ (x60_2 : Int) := of_decide_eq_true (by first | (with_reducible assumption) | assumption)
                            have q28 : x60_2 < (t110.size : Int) := of_decide_eq_true (by first | (with_reducible assumption) | assumption)
                            have hx28 := bt_at t110 x60_2
                            replace p28 := eq_true p28
                            replace q28 := eq_true q28
                            go_wp2
                            go_ret
                            exact ⟨by first | rfl | (simp [errW_none, errW_some] <;> rfl) | (simp [*, errW_none, errW_some] <;> rfl), by repeat (first | (with_reducible first | exact HB.out | apply below_alloc | apply pw_below_drewN | apply below_drew1) | exact HB.out)⟩
                        · rw [if_neg c27] at H
                          exact absurd H (by simp)
                      · rw [if_neg c26] at H
                        have c26b0 : decide ((wrap64 (a1 + (t109.size : Int))) ≤ x60_2) = false := decide_eq_false c26
                        clear c26
                        have H' := Aside0.mk H
                        clear H
                        have p21 : 0 ≤ (x60_2 : Int) := of_decide_eq_true (by first | (with_reducible assumption) | assumption)
                        have q21 : x60_2 < (t108.size : Int) := of_decide_eq_true (by first | (with_reducible assumption) | assumption)
                        have hx21 := bt_at t108 x60_2
                        replace p21 := eq_true p21
                        replace q21 := eq_true q21
                        go_wp2
                        go_roundg k2
                        case measure => have := HJ8.out; have := HK2.out; omega
                        case rel => exact ⟨(wrap64 (x60_2 + 1)), (by first | rfl | (simp; done) | (simp [*]; done)), H', ⟨by have := HJ8.out; have := HK2.out; omega⟩, ⟨by repeat (first | (with_reducible first | exact HB.out | apply below_alloc | apply pw_below_drewN | apply below_drew1) | exact HB.out)⟩⟩
                  · rw [if_neg c20] at H
                    exact absurd H (by simp)
                · rw [if_neg c19] at H
                  have c19b0 : decide (x60_2 < (t108.size : Int)) = false := decide_eq_false c19
                  clear c19
                  by_cases c30 : x60_2 < a1
                  · rw [if_pos c30] at H
                    have c30b0 : decide (x60_2 < a1) = true := decide_eq_true c30
                    clear c30
                    by_cases c31 : 0 ≤ x60_2
                    · rw [if_pos c31] at H
                      have c31b0 : decide (0 ≤ x60_2) = true := decide_eq_true c31
                      clear c31
                      by_cases c32 : x60_2 < (t110.size : Int)
                      · rw [if_pos c32] at H
                        have c32b0 : decide (x60_2 < (t110.size : Int)) = true := decide_eq_true c32
                        clear c32
                        by_cases c34 : (bt t110 x60_2) = 0
                        · rw [if_pos c34] at H
                          have c34b0 : ((bt t110 x60_2) == 0) = true := beq_iff_eq.mpr c34
                          have c34b1 : ((bt t110 x60_2) != 0) = false := bne_eq_false_iff_eq.mpr c34
                          clear c34
                          have H' := Aside0.mk H
                          clear H
                          have p33 : 0 ≤ (x60_2 : Int) := of_decide_eq_true (by first | (with_reducible assumption) | assumption)
                          have q33 : x60_2 < (t110.size : Int) := of_decide_eq_true (by first | (with_reducible assumption) | assumption)
                          have hx33 := bt_at t110 x60_2
                          replace p33 := eq_true p33
                          replace q33 := eq_true q33
                          go_wp2
                          go_roundg k2
                          case measure => have := HJ8.out; have := HK2.out; omega
                          case rel => exact ⟨(wrap64 (x60_2 + 1)), (by first | rfl | (simp; done) | (simp [*]; done)), H', ⟨by have := HJ8.out; have := HK2.out; omega⟩, ⟨by repeat (first | (with_reducible first | exact HB.out | apply below_alloc | apply pw_below_drewN | apply below_drew1) | exact HB.out)⟩⟩
                        · rw [if_neg c34] at H
                          have c34b0 : ((bt t110 x60_2) == 0) = false := beq_eq_false_iff_ne.mpr c34
                          have c34b1 : ((bt t110 x60_2) != 0) = true := bne_iff_ne.mpr c34
                          obtain rfl := Option.some.inj H
                          have p33 : 0 ≤ (x60_2 : Int) := of_decide_eq_true (by first | (with_reducible assumption) | assumption)
                          have q33 : x60_2 < (t110.size : Int) := of_decide_eq_true (by first | (with_reducible assumption) | assumption)
                          have hx33 := bt_at t110 x60_2
                          replace p33 := eq_true p33
                          replace q33 := eq_true q33
                          go_wp2
                          go_ret
                          exact ⟨by first | rfl | (simp [errW_none, errW_some] <;> rfl) | (simp [*, errW_none, errW_some] <;> rfl), by repeat (first | (with_reducible first | exact HB.out | apply below_alloc | apply pw_below_drewN | apply below_drew1) | exact HB.out)⟩
                      · rw [if_neg c32] at H
                        exact absurd H (by simp)
                    · rw [if_neg c31] at H
                      exact absurd H (by simp)
                  · rw [if_neg c30] at H
                    have c30b0 : decide (x60_2 < a1) = false := decide_eq_false c30
                    clear c30
                    by_cases c35 : x60_2 ≥ (wrap64 (a1 + (t109.size : Int)))
                    · rw [if_pos c35] at H
                      have c35b0 : decide ((wrap64 (a1 + (t109.size : Int))) ≤ x60_2) = true := decide_eq_true c35
                      clear c35
                      by_cases c36 : 0 ≤ x60_2
                      · rw [if_pos c36] at H
                        have c36b0 : decide (0 ≤ x60_2) = true := decide_eq_true c36
                        clear c36
                        by_cases c37 : x60_2 < (t110.size : Int)
                        · rw [if_pos c37] at H
                          have c37b0 : decide (x60_2 < (t110.size : Int)) = true := decide_eq_true c37
                          clear c37
                          by_cases c39 : (bt t110 x60_2) = 0
                          · rw [if_pos c39] at H
                            have c39b0 : ((bt t110 x60_2) == 0) = true := beq_iff_eq.mpr c39
                            have c39b1 : ((bt t110 x60_2) != 0) = false := bne_eq_false_iff_eq.mpr c39
                            clear c39
                            have H' := Aside0.mk H
                            clear H
                            have p38 : 0 ≤ (x60_2 : Int) := of_decide_eq_true (by first | (with_reducible assumption) | assumption)
                            have q38 : x60_2 < (t110.size : Int) := of_decide_eq_true (by first | (with_reducible assumption) | assumption)
                            have hx38 := bt_at t110 x60_2
                            replace p38 := eq_true p38
                            replace q38 := eq_true q38
                            go_wp2
                            go_roundg k2
                            case measure => have := HJ8.out; have := HK2.out; omega
                            case rel => exact ⟨(wrap64 (x60_2 + 1)), (by first | rfl | (simp; done) | (simp [*]; done)), H', ⟨by have := HJ8.out; have := HK2.out; omega⟩, ⟨by repeat (first | (with_reducible first | exact HB.out | apply below_alloc | apply pw_below_drewN | apply below_drew1) | exact HB.out)⟩⟩
                          · rw [if_neg c39] at H
                            have c39b0 : ((bt t110 x60_2) == 0) = false := beq_eq_false_iff_ne.mpr c39
                            have c39b1 : ((bt t110 x60_2) != 0) = true := bne_iff_ne.mpr c39
                            obtain rfl := Option.some.inj H
                            have p38 : 0 ≤ (x60_2 : Int) := of_decide_eq_true (by first | (with_reducible assumption) | assumption)
                            have q38 : x60_2 < (t110.size : Int) := of_decide_eq_true (by first | (with_reducible assumption) | assumption)
                            have hx38 := bt_at t110 x60_2
                            replace p38 := eq_true p38
                            replace q38 := eq_true q38
                            go_wp2
                            go_ret
                            exact ⟨by first | rfl | (simp [errW_none, errW_some] <;> rfl) | (simp [*, errW_none, errW_some] <;> rfl), by repeat (first | (with_reducible first | exact HB.out | apply below_alloc | apply pw_below_drewN | apply below_drew1) | exact HB.out)⟩
                        · rw [if_neg c37] at H
                          exact absurd H (by simp)
                      · rw [if_neg c36] at H
                        exact absurd H (by simp)
                    · rw [if_neg c35] at H
                      have c35b0 : decide ((wrap64 (a1 + (t109.size : Int))) ≤ x60_2) = false := decide_eq_false c35
                      clear c35
                      have H' := Aside0.mk H
                      clear H
                      go_wp2
                      go_roundg k2
                      case measure => have := HJ8.out; have := HK2.out; omega
                      case rel => exact ⟨(wrap64 (x60_2 + 1)), (by first | rfl | (simp; done) | (simp [*]; done)), H', ⟨by have := HJ8.out; have := HK2.out; omega⟩, ⟨by repeat (first | (with_reducible first | exact HB.out | apply below_alloc | apply pw_below_drewN | apply below_drew1) | exact HB.out)⟩⟩
              · rw [if_neg c18] at H
                have c18b0 : decide (x60_2 < (t110.size : Int)) = false := decide_eq_false c18
                clear c18
                replace H := Option.bind_eq_some_iff.mp H
                obtain ⟨t115, A400, H⟩ := H
                replace H : (some t115) = some r := H
                have A40 := Aside0.mk A400
                clear A400
                obtain rfl := Option.some.inj H
                go_wp2_with (first | ((with_reducible refine gate_callee (f := 10) rfl ?_); refine goesL_ (some 89) rfl rfl Try.func10 (by kernel_rfl) rfl #[] rfl (by (try simp only [List.map_toArray, List.map_cons, List.map_nil]); first | done | rfl | (simp only [List.length_drop, List.length_take]; rfl)) ?_; (with_reducible refine (aquiferlaw15_works.calls  t115 _ A40.out).mono ?_); rintro e w41 ⟨rfl, hb⟩; refine ⟨_, rfl, ?_⟩; have n0_ := Aside0.mk (below_step (by repeat (first | (with_reducible first | exact HB.out | apply below_alloc | apply pw_below_drewN | apply below_drew1) | exact HB.out)) hb); clear HB; have HB := n0_; clear n0_; (try clear hb); (try clear hb2); (try clear hk); (try clear hi)))
                go_ret
                exact ⟨by first | rfl | (simp [errW_none, errW_some] <;> rfl) | (simp [*, errW_none, errW_some] <;> rfl), by repeat (first | (with_reducible first | exact HB.out | apply below_alloc | apply pw_below_drewN | apply below_drew1) | exact HB.out)⟩
  · rw [if_neg c7] at H
    have c7b0 : (t111 == 0) = false := beq_eq_false_iff_ne.mpr c7
    have c7b1 : (t111 != 0) = true := bne_iff_ne.mpr c7
    by_cases c42 : t110.toList = ([] : List UInt8)
    · rw [if_pos c42] at H
      have c42b0 : (t110.toList == ([] : List UInt8)) = true := beq_iff_eq.mpr c42
      have c42b1 : (t110.toList != ([] : List UInt8)) = false := bne_eq_false_iff_eq.mpr c42
      clear c42
      replace H := Option.bind_eq_some_iff.mp H
      obtain ⟨t112, A430, H⟩ := H
      replace H : (some t112) = some r := H
      have A43 := Aside0.mk A430
      clear A430
      obtain rfl := Option.some.inj H
      go_enter Try.func3, Try.ntmps3
      go_wp2_with (first | ((with_reducible refine gate_callee (f := 8) rfl ?_); refine goesL_ (some 14) rfl rfl Try.func8 (by kernel_rfl) rfl #[.string a0] rfl (by (try simp only [List.map_toArray, List.map_cons, List.map_nil]); first | done | rfl | (simp only [List.length_drop, List.length_take]; rfl)) ?_; (with_reducible refine (aquiferlaw15_few.calls a0 t108 _ A4.out).mono ?_); rintro e w44 ⟨rfl, hb⟩; refine ⟨_, rfl, ?_⟩; have n0_ := Aside0.mk (below_step (by repeat (first | (with_reducible first | exact HB.out | apply below_alloc | apply pw_below_drewN | apply below_drew1) | exact HB.out)) hb); clear HB; have HB := n0_; clear n0_; (try clear hb); (try clear hb2); (try clear hk); (try clear hi)) | ((with_reducible refine gate_callee (f := 8) rfl ?_); refine goesL_ (some 16) rfl rfl Try.func8 (by kernel_rfl) rfl #[.string a2] rfl (by (try simp only [List.map_toArray, List.map_cons, List.map_nil]); first | done | rfl | (simp only [List.length_drop, List.length_take]; rfl)) ?_; (with_reducible refine (aquiferlaw15_few.calls a2 t109 _ A5.out).mono ?_); rintro e w45 ⟨rfl, hb⟩; refine ⟨_, rfl, ?_⟩; have n0_ := Aside0.mk (below_step (by repeat (first | (with_reducible first | exact HB.out | apply below_alloc | apply pw_below_drewN | apply below_drew1) | exact HB.out)) hb); clear HB; have HB := n0_; clear n0_; (try clear hb); (try clear hb2); (try clear hk); (try clear hi)) | ((with_reducible refine gate_callee (f := 9) rfl ?_); refine goesL_ (some 21) rfl rfl Try.func9 (by kernel_rfl) rfl #[.string t108, .int .i64 a1, .string t109] rfl (by (try simp only [List.map_toArray, List.map_cons, List.map_nil]); first | done | rfl | (simp only [List.length_drop, List.length_take]; rfl)) ?_; (with_reducible refine (chunk_Write.calls t108 a1 t109 t110 t111 _ A6.out).mono ?_); rintro e w46 ⟨rfl, hb⟩; refine ⟨_, rfl, ?_⟩; have n0_ := Aside0.mk (below_step (by repeat (first | (with_reducible first | exact HB.out | apply below_alloc | apply pw_below_drewN | apply below_drew1) | exact HB.out)) hb); clear HB; have HB := n0_; clear n0_; (try clear hb); (try clear hb2); (try clear hk); (try clear hi)) | (go_at_call 10; (with_reducible refine (aquiferlaw15_works.calls  t112 _ A43.out).mono ?_); rintro e w47 ⟨rfl, hb⟩; have n0_ := Aside0.mk (below_step (by repeat (first | (with_reducible first | exact HB.out | apply below_alloc | apply pw_below_drewN | apply below_drew1) | exact HB.out)) hb); clear HB; have HB := n0_; clear n0_; (try clear hb); (try clear hb2); (try clear hk); (try clear hi)))
      go_ret
      exact ⟨by first | rfl | (simp [errW_none, errW_some] <;> rfl) | (simp [*, errW_none, errW_some] <;> rfl), by repeat (first | (with_reducible first | exact HB.out | apply below_alloc | apply pw_below_drewN | apply below_drew1) | exact HB.out)⟩
    · rw [if_neg c42] at H
      have c42b0 : (t110.toList == ([] : List UInt8)) = false := beq_eq_false_iff_ne.mpr c42
      have c42b1 : (t110.toList != ([] : List UInt8)) = true := bne_iff_ne.mpr c42
      obtain rfl := Option.some.inj H
      go_enter Try.func3, Try.ntmps3
      go_wp2_with (first | ((with_reducible refine gate_callee (f := 8) rfl ?_); refine goesL_ (some 14) rfl rfl Try.func8 (by kernel_rfl) rfl #[.string a0] rfl (by (try simp only [List.map_toArray, List.map_cons, List.map_nil]); first | done | rfl | (simp only [List.length_drop, List.length_take]; rfl)) ?_; (with_reducible refine (aquiferlaw15_few.calls a0 t108 _ A4.out).mono ?_); rintro e w48 ⟨rfl, hb⟩; refine ⟨_, rfl, ?_⟩; have n0_ := Aside0.mk (below_step (by repeat (first | (with_reducible first | exact HB.out | apply below_alloc | apply pw_below_drewN | apply below_drew1) | exact HB.out)) hb); clear HB; have HB := n0_; clear n0_; (try clear hb); (try clear hb2); (try clear hk); (try clear hi)) | ((with_reducible refine gate_callee (f := 8) rfl ?_); refine goesL_ (some 16) rfl rfl Try.func8 (by kernel_rfl) rfl #[.string a2] rfl (by (try simp only [List.map_toArray, List.map_cons, List.map_nil]); first | done | rfl | (simp only [List.length_drop, List.length_take]; rfl)) ?_; (with_reducible refine (aquiferlaw15_few.calls a2 t109 _ A5.out).mono ?_); rintro e w49 ⟨rfl, hb⟩; refine ⟨_, rfl, ?_⟩; have n0_ := Aside0.mk (below_step (by repeat (first | (with_reducible first | exact HB.out | apply below_alloc | apply pw_below_drewN | apply below_drew1) | exact HB.out)) hb); clear HB; have HB := n0_; clear n0_; (try clear hb); (try clear hb2); (try clear hk); (try clear hi)) | ((with_reducible refine gate_callee (f := 9) rfl ?_); refine goesL_ (some 21) rfl rfl Try.func9 (by kernel_rfl) rfl #[.string t108, .int .i64 a1, .string t109] rfl (by (try simp only [List.map_toArray, List.map_cons, List.map_nil]); first | done | rfl | (simp only [List.length_drop, List.length_take]; rfl)) ?_; (with_reducible refine (chunk_Write.calls t108 a1 t109 t110 t111 _ A6.out).mono ?_); rintro e w50 ⟨rfl, hb⟩; refine ⟨_, rfl, ?_⟩; have n0_ := Aside0.mk (below_step (by repeat (first | (with_reducible first | exact HB.out | apply below_alloc | apply pw_below_drewN | apply below_drew1) | exact HB.out)) hb); clear HB; have HB := n0_; clear n0_; (try clear hb); (try clear hb2); (try clear hk); (try clear hi)))
      go_ret
      exact ⟨by first | rfl | (simp [errW_none, errW_some] <;> rfl) | (simp [*, errW_none, errW_some] <;> rfl), by repeat (first | (with_reducible first | exact HB.out | apply below_alloc | apply pw_below_drewN | apply below_drew1) | exact HB.out)⟩

/-- THE ONE PURE STATEMENT of aquiferlaw15_ChunkReads: yours. -/
def aquiferlaw15_ChunkReads.Pure : Prop := ∀ (a0 : ByteArray) (a1 : Int) (a2 : ByteArray), a0.size ≤ 140737488351232 → (Lit.int .i64 a1).wf = true → a2.size ≤ 140737488351232 → ∃ k, aquiferlaw15_ChunkReads.f k a0 a1 a2 = some true
theorem aquiferlaw15_ChunkReads.walk (P : aquiferlaw15_ChunkReads.Pure) (a0 : ByteArray) (a1 : Int) (a2 : ByteArray) (w : World) (w0 : a0.size ≤ 140737488351232) (w1 : (Lit.int .i64 a1).wf = true) (w2 : a2.size ≤ 140737488351232) :
    Calls Try.prog 3 #[.string a0, .int .i64 a1, .string a2] w fun e w' => e = .returned (.bool true) ∧ Below w.heap.size w w' := by
  obtain ⟨k, h⟩ := P a0 a1 a2 w0 w1 w2
  refine (aquiferlaw15_ChunkReads.calls k a0 a1 a2 true w h).mono ?_
  rintro e w' ⟨rfl, hd⟩
  exact ⟨rfl, hd⟩

end Go.Proofs.Ytealmnllljoolaa.PChunkReads
