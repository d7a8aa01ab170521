/- Functions that the law reaches, each as a Lean function with the proof that the Go code comes to its answers; laid by wip/hook.py, a program of this session, over the print of the kit. -/
import Derived.Test.YtealmnllljoolaaPChunkWritesx0
namespace Go.Proofs.Ytealmnllljoolaa.PChunkWrites
open Go.RowKit Go.Proofs.YtealmnllljoolaaW.PrintWords Go.Proofs.YtealmnllljoolaaW.PrintLast Go.Proofs.YtealmnllljoolaaW.PrintMore
attribute [local go_sem] max2_int min2_int max_two min_two max_three min_three max_four min_four   -- for this text's walks alone
set_option linter.unusedVariables false
set_option linter.unusedSimpArgs false

/-! ### aquiferlaw15_few: function 8 -/
def aquiferlaw15_few.f (a0 : ByteArray) : Option (ByteArray) := if 0 ≤ (mn (a0.size : Int) 4200) then (if (mn (a0.size : Int) 4200) ≤ (a0.size : Int) then (some (a0.extract 0 ((mn (a0.size : Int) 4200) : Int).toNat)) else (none)) else (none)
set_option maxHeartbeats 8000000 in
set_option maxRecDepth 100000 in
theorem aquiferlaw15_few.calls (a0 : ByteArray) (r : ByteArray) (w : World) (h : aquiferlaw15_few.f a0 = some r) :
    Calls Try.prog 8 #[.string a0] w fun e w' => e = .returned (.string r) ∧ Below w.heap.size w w' := by
  have HB := Aside0.mk (Below.refl w.heap.size w)
  have H : (if 0 ≤ (mn (a0.size : Int) 4200) then (if (mn (a0.size : Int) 4200) ≤ (a0.size : Int) then (some (a0.extract 0 ((mn (a0.size : Int) 4200) : Int).toNat)) else (none)) else (none)) = some r := h
  clear h
  obtain ⟨ji2, hji2⟩ : ∃ j_ : Int, (mn (a0.size : Int) 4200) = j_ := ⟨_, rfl⟩
  replace H : (if 0 ≤ (ji2) then (if (ji2) ≤ (a0.size : Int) then (some (a0.extract 0 ((ji2) : Int).toNat)) else (none)) else (none)) = some r := by first | (rw [hji2] at H; exact H) | (simp only [hji2] at H ⊢; exact H)
  (try (have hji2h : ji2 ≤ 4200 := by (rw [← hji2]; unfold mn; (repeat' split) <;> omega)))
  (try (have hji2g : ji2 ≤ 64 := by omega))
  (try (have hji2l : 0 ≤ ji2 := by (rw [← hji2]; unfold mn; (repeat' split) <;> omega)))
  (try (have hji2m : 0 ≤ ji2 := by omega))
  have hji2_ : (if 4200 < (a0.size : Int) then 4200 else (a0.size : Int)) = ji2 := hji2
  (try (have hji2n_ := hji2_; simp only [Int.ofNat_lt] at hji2n_))
  by_cases c3 : 0 ≤ (ji2)
  · rw [if_pos c3] at H
    have c3b0 := eq_true c3
    have c3b1 : decide (0 ≤ (ji2)) = true := decide_eq_true c3
    clear c3
    by_cases c4 : (ji2) ≤ (a0.size : Int)
    · rw [if_pos c4] at H
      have c4b0 := eq_true c4
      have c4b1 : decide ((ji2) ≤ (a0.size : Int)) = true := decide_eq_true c4
      clear c4
      obtain rfl := Option.some.inj H
      go_enter Try.func8, Try.ntmps8
      go_wp2
      go_ret
      exact ⟨by first | rfl | (simp [errW_none, errW_some] <;> rfl) | (simp only [← hji2]; first | rfl | (simp [errW_none, errW_some] <;> rfl)) | (simp [*, errW_none, errW_some] <;> rfl), by repeat (first | (with_reducible first | exact HB.out | apply below_alloc | apply pw_below_drewN | apply below_drew1) | exact HB.out)⟩
    · rw [if_neg c4] at H
      exact absurd H (by simp)
  · rw [if_neg c3] at H
    exact absurd H (by simp)

/-! ### chunk_Write: function 9 -/
/-- What Write writes. -/
def chunk_Write.row (a0 : ByteArray) (off : Nat) (a2 : ByteArray) : List Int :=
  Copy.over (Copy.over (List.replicate (if a0.size < off + a2.size then off + a2.size else a0.size) 0) 0 (bytesOf a0)) off (bytesOf a2)
def chunk_Write.f (a0 : ByteArray) (a1 : Int) (a2 : ByteArray) : Option (ByteArray × Int) :=
  if (a0.size : Int) > 4096 then (some ((⟨#[]⟩ : ByteArray), 3)) else (if a1 < 0 then (some ((⟨#[]⟩ : ByteArray), 2)) else (if a1 > 4096 then (some ((⟨#[]⟩ : ByteArray), 3)) else (if (a2.size : Int) > 4096 - a1 then (some ((⟨#[]⟩ : ByteArray), 3)) else (some (strOfNums (chunk_Write.row a0 a1.toNat a2), 0)))))
set_option maxHeartbeats 1000000 in
theorem chunk_Write.calls (a0 : ByteArray) (a1 : Int) (a2 : ByteArray) (r1 : ByteArray) (r2 : Int) (w : World) (h : chunk_Write.f a0 a1 a2 = some (r1, r2)) :
    Calls Try.prog 9 #[.string a0, .int .i64 a1, .string a2] w fun e w' => e = .returned (.tuple #[.string r1, .int .i64 r2]) ∧ Below w.heap.size w w' := by
  unfold chunk_Write.f at h
  by_cases c1 : (a0.size : Int) > 4096
  · rw [if_pos c1] at h
    simp only [Option.some.injEq, Prod.mk.injEq] at h
    obtain ⟨rfl, rfl⟩ := h
    have c1b : decide (4096 < a0.size) = true := decide_eq_true (by omega)
    go_enter Try.func9, Try.ntmps9
    go_wp2
    go_ret2
    exact ⟨rfl, Below.refl _ _⟩
  rw [if_neg c1] at h
  have c1b : decide (4096 < a0.size) = false := decide_eq_false (by omega)
  by_cases c2 : a1 < 0
  · rw [if_pos c2] at h
    simp only [Option.some.injEq, Prod.mk.injEq] at h
    obtain ⟨rfl, rfl⟩ := h
    go_enter Try.func9, Try.ntmps9
    go_wp2
    go_ret2
    exact ⟨rfl, Below.refl _ _⟩
  rw [if_neg c2] at h
  by_cases c3 : a1 > 4096
  · rw [if_pos c3] at h
    simp only [Option.some.injEq, Prod.mk.injEq] at h
    obtain ⟨rfl, rfl⟩ := h
    go_enter Try.func9, Try.ntmps9
    go_wp2
    go_ret2
    exact ⟨rfl, Below.refl _ _⟩
  rw [if_neg c3] at h
  obtain ⟨off, rfl⟩ := Int.eq_ofNat_of_zero_le (show 0 ≤ a1 by omega)
  by_cases c4 : (a2.size : Int) > 4096 - (off : Int)
  · rw [if_pos c4] at h
    simp only [Option.some.injEq, Prod.mk.injEq] at h
    obtain ⟨rfl, rfl⟩ := h
    go_enter Try.func9, Try.ntmps9
    go_wp2
    go_ret2
    exact ⟨rfl, Below.refl _ _⟩
  rw [if_neg c4] at h
  simp only [Option.some.injEq, Prod.mk.injEq, Int.toNat_natCast] at h
  obtain ⟨rfl, rfl⟩ := h
  obtain ⟨m, hm⟩ : ∃ m : Nat, (if a0.size < off + a2.size then off + a2.size else a0.size) = m := ⟨_, rfl⟩
  have hmi : (if (a0.size : Int) < (off : Int) + (a2.size : Int) then (off : Int) + (a2.size : Int) else (a0.size : Int)) = (m : Int) := by split at hm <;> split <;> omega
  have hm1 : a0.size ≤ m := by split at hm <;> omega
  have hm2 : off + a2.size ≤ m := by split at hm <;> omega
  have hm3 : m ≤ 4096 := by split at hm <;> omega
  have hrow : Hid (strOfNums (chunk_Write.row a0 off a2) = strOfNums (Copy.over (Copy.over (List.replicate m 0) 0 ((bytesOf a0).take a0.size)) off ((bytesOf a2).take a2.size))) := by
    show _ = _
    unfold chunk_Write.row
    rw [hm, List.take_of_length_le (by rw [bytesOf_length]; omega), List.take_of_length_le (by rw [bytesOf_length]; omega)]
  clear hm
  have hmk := print_make (P := Try.prog) 32 5 .u8 1 Try.underlying32 info5 (by omega) m (by omega)
  obtain ⟨i5, hi5, hz5⟩ := Option.map_eq_some_iff.1 info5
  have hs5 : (Try.prog.info? 5).map (fun i => i.size) = some 1 := by rw [hi5]; simp only [Prod.mk.injEq] at hz5; simp [hz5.2.1]
  simp only [Prod.mk.injEq] at hz5
  obtain ⟨A, hA, hcut⟩ : ∃ A : Option Addr, (off < m → A = some ⟨w.heap.size, off, none⟩) ∧ ∀ W : World, (Instr.slice 32 (.slice (some ⟨w.heap.size, 0, none⟩) m m) (some (.int .i64 (off : Int))) none none).run Try.prog W = .ok (.slice A (m - off) (m - off)) W := by
    refine ⟨if m = off then some ⟨w.heap.size, 0, none⟩ else some ⟨w.heap.size, off, none⟩, fun h => by rw [if_neg (by omega)], fun W => ?_⟩
    have hel : Try.prog.elem 32 = 5 := by simp [Program.elem, Try.underlying32]
    have hu : Try.prog.underlying 32 = some (.slice (Try.prog.elem 32)) := by rw [hel]; exact Try.underlying32
    rw [run_slice_l W 32 _ m m hu .i64 (off : Int) (Int.natCast_nonneg _) (by omega), hel]
    by_cases he : m = off
    · simp [sizeOf, typeInfo, hi5, hz5.2.1, sliced, Result.andThen, he]
    · simp [sizeOf, typeInfo, hi5, hz5.2.1, sliced, Result.andThen, he, Addr.add]
      by_cases h0 : off = 0 <;> simp [h0]
  have HA := Aside0.mk hA
  clear hA
  clear hi5
  go_enter Try.func9, Try.ntmps9
  go_wp2_with (first
    | (with_reducible refine Copy.copy_str (w0 := w) w.heap.size rfl (.tmp 34) (.tmp 35) 32 9 5 rfl Try.underlying32 hs5 w.heap.size m m (List.replicate m 0) 0 _ m m rfl a0 rfl a0.size (Nat.min_eq_left hm1) (fun _ => rfl) (by omega) (own_made w w.heap.size 5 .u8 m (Nat.le_refl _) (by omega)) ((Below.refl _ _).alloc (Nat.le_refl _) _) ?_; intro w1 HO1 HB1 hz1)
    | (with_reducible refine Copy.copy_str (w0 := w) w.heap.size rfl (.tmp 39) (.tmp 40) 32 9 5 rfl Try.underlying32 hs5 w.heap.size m m _ off A (m - off) (m - off) rfl a2 rfl a2.size (Nat.min_eq_left (by omega)) (fun h => HA.out (by omega)) (by omega) HO1 HB1 ?_; intro w2 HO2 HB2 hz2; have kst := own_string (P := Try.prog) Try.underlying32 Try.underlying5 Try.underlying9 HO2))
  go_ret2
  exact ⟨by rw [hrow.out]; rfl, HB2⟩


/-! ### chunk_Count: function 13 -/
def chunk_Count.f (a0 : Int) : Option (Int) := if a0 < 1 then (some 0) else (some (wrap64 ((wrap64 (Int.tdiv (wrap64 (a0 - 1)) 64)) + 1)))
set_option maxHeartbeats 8000000 in
set_option maxRecDepth 100000 in
theorem chunk_Count.calls (a0 : Int) (r : Int) (w : World) (h : chunk_Count.f a0 = some r) :
    Calls Try.prog 13 #[.int .i64 a0] w fun e w' => e = .returned (.int .i64 r) ∧ Drawn0 w w' := by
  have H : (if a0 < 1 then (some 0) else (some (wrap64 ((wrap64 (Int.tdiv (wrap64 (a0 - 1)) 64)) + 1)))) = some r := h
  clear h
  by_cases c2 : a0 < 1
  · rw [if_pos c2] at H
    have c2b0 : decide (a0 < 1) = true := decide_eq_true c2
    clear c2
    obtain rfl := Option.some.inj H
    go_enter Try.func13, Try.ntmps13
    go_wp2
    go_ret
    exact ⟨by first | rfl | (simp; done) | (simp [*]; done), by repeat (first | exact Drawn0.refl _ | apply Drawn0.step)⟩
  · rw [if_neg c2] at H
    have c2b0 : decide (a0 < 1) = false := decide_eq_false c2
    clear c2
    obtain rfl := Option.some.inj H
    go_enter Try.func13, Try.ntmps13
    go_wp2
    go_ret
    exact ⟨by first | rfl | (simp; done) | (simp [*]; done), by repeat (first | exact Drawn0.refl _ | apply Drawn0.step)⟩

/-! ### chunk_Bounds: function 19 -/
def chunk_Bounds.f (a0 : Int) (a1 : Int) : Option (Int × Int) := if a0 > 4096 then (some (0, 0)) else (if a1 < 0 then (some (0, 0)) else ((chunk_Count.f a0).bind fun t101 => (if a1 ≥ t101 then (some (0, 0)) else (some (wrap64 (a1 * 64), mn (wrap64 ((wrap64 (a1 * 64)) + 64)) a0)))))
set_option maxHeartbeats 8000000 in
set_option maxRecDepth 100000 in
theorem chunk_Bounds.calls (a0 : Int) (a1 : Int) (r1 : Int) (r2 : Int) (w : World) (h : chunk_Bounds.f a0 a1 = some (r1, r2)) :
    Calls Try.prog 19 #[.int .i64 a0, .int .i64 a1] w fun e w' => e = .returned (.tuple #[.int .i64 r1, .int .i64 r2]) ∧ Below w.heap.size w w' := by
  have HB := Aside0.mk (Below.refl w.heap.size w)
  have H : (if a0 > 4096 then (some (0, 0)) else (if a1 < 0 then (some (0, 0)) else ((chunk_Count.f a0).bind fun t101 => (if a1 ≥ t101 then (some (0, 0)) else (some (wrap64 (a1 * 64), mn (wrap64 ((wrap64 (a1 * 64)) + 64)) a0)))))) = some (r1, r2) := h
  clear h
  by_cases c3 : a0 > 4096
  · rw [if_pos c3] at H
    have c3b0 : decide (4096 < a0) = true := decide_eq_true c3
    clear c3
    simp only [Option.some.injEq, Prod.mk.injEq] at H
    obtain ⟨rfl, rfl⟩ := H
    go_enter Try.func19, Try.ntmps19
    go_wp2
    go_ret2
    exact ⟨by first | rfl | (simp [errW_none, errW_some] <;> rfl) | (simp [*, errW_none, errW_some] <;> rfl), by repeat (first | (with_reducible first | exact HB.out | apply below_alloc | apply pw_below_drewN | apply below_drew1) | exact HB.out)⟩
  · rw [if_neg c3] at H
    have c3b0 : decide (4096 < a0) = false := decide_eq_false c3
    clear c3
    by_cases c4 : a1 < 0
    · rw [if_pos c4] at H
      have c4b0 : decide (a1 < 0) = true := decide_eq_true c4
      clear c4
      simp only [Option.some.injEq, Prod.mk.injEq] at H
      obtain ⟨rfl, rfl⟩ := H
      go_enter Try.func19, Try.ntmps19
      go_wp2
      go_ret2
      exact ⟨by first | rfl | (simp [errW_none, errW_some] <;> rfl) | (simp [*, errW_none, errW_some] <;> rfl), by repeat (first | (with_reducible first | exact HB.out | apply below_alloc | apply pw_below_drewN | apply below_drew1) | exact HB.out)⟩
    · rw [if_neg c4] at H
      have c4b0 : decide (a1 < 0) = false := decide_eq_false c4
      clear c4
      replace H := Option.bind_eq_some_iff.mp H
      obtain ⟨t101, A50, H⟩ := H
      replace H : (if a1 ≥ t101 then (some (0, 0)) else (some (wrap64 (a1 * 64), mn (wrap64 ((wrap64 (a1 * 64)) + 64)) a0))) = some (r1, r2) := H
      have A5 := Aside0.mk A50
      clear A50
      by_cases c6 : a1 ≥ t101
      · rw [if_pos c6] at H
        have c6b0 : decide (t101 ≤ a1) = true := decide_eq_true c6
        clear c6
        simp only [Option.some.injEq, Prod.mk.injEq] at H
        obtain ⟨rfl, rfl⟩ := H
        go_enter Try.func19, Try.ntmps19
        go_wp2_with (first | (go_at_call 13; (with_reducible refine (chunk_Count.calls a0 t101 _ A5.out).mono ?_); rintro e w' ⟨rfl, ⟨nd, rfl⟩⟩))
        go_ret2
        exact ⟨by first | rfl | (simp [errW_none, errW_some] <;> rfl) | (simp [*, errW_none, errW_some] <;> rfl), by repeat (first | (with_reducible first | exact HB.out | apply below_alloc | apply pw_below_drewN | apply below_drew1) | exact HB.out)⟩
      · rw [if_neg c6] at H
        have c6b0 : decide (t101 ≤ a1) = false := decide_eq_false c6
        clear c6
        obtain ⟨ji7, hji7⟩ : ∃ j_ : Int, (mn (wrap64 ((wrap64 (a1 * 64)) + 64)) a0) = j_ := ⟨_, rfl⟩
        replace H : (some (wrap64 (a1 * 64), ji7)) = some (r1, r2) := by first | (rw [hji7] at H; exact H) | (simp only [hji7] at H ⊢; exact H)
        (try rw [hji7] at A5)
        have hji7_ : (if a0 < (wrap64 ((wrap64 (a1 * 64)) + 64)) then a0 else (wrap64 ((wrap64 (a1 * 64)) + 64))) = ji7 := hji7
        (try (have hji7n_ := hji7_; simp only [Int.ofNat_lt] at hji7n_))
        simp only [Option.some.injEq, Prod.mk.injEq] at H
        obtain ⟨rfl, rfl⟩ := H
        go_enter Try.func19, Try.ntmps19
        go_wp2_with (first | (go_at_call 13; (with_reducible refine (chunk_Count.calls a0 t101 _ A5.out).mono ?_); rintro e w' ⟨rfl, ⟨nd, rfl⟩⟩))
        go_ret2
        exact ⟨by first | rfl | (simp [errW_none, errW_some] <;> rfl) | (simp only [← hji7]; first | rfl | (simp [errW_none, errW_some] <;> rfl)) | (simp [*, errW_none, errW_some] <;> rfl), by repeat (first | (with_reducible first | exact HB.out | apply below_alloc | apply pw_below_drewN | apply below_drew1) | exact HB.out)⟩

/-! ### aquiferlaw15_works: function 10 -/
def aquiferlaw15_works.f  : Option (Bool) := (chunk_Bounds.f 100 1).bind fun bt102 => ((chunk_Write.f (⟨#[97, 98]⟩ : ByteArray) 3 (⟨#[120]⟩ : ByteArray)).bind fun bt104 => ((chunk_Count.f 64).bind fun t106 => (if t106 = 1 then ((chunk_Count.f 65).bind fun t107 => (if t107 = 2 then (if bt102.1 = 64 then (if bt102.2 = 100 then (if bt104.1.toList = ([97, 98, 0, 120] : List UInt8) then (some (bt104.2 == 0)) else (some false)) else (some false)) else (some false)) else (some false))) else (some false))))
set_option maxHeartbeats 8000000 in
set_option maxRecDepth 100000 in
theorem aquiferlaw15_works.calls  (r : Bool) (w : World) (h : aquiferlaw15_works.f  = some r) :
    Calls Try.prog 10 #[] w fun e w' => e = .returned (.bool r) ∧ Below w.heap.size w w' := by
  have HB := Aside0.mk (Below.refl w.heap.size w)
  have H : ((chunk_Bounds.f 100 1).bind fun bt102 => ((chunk_Write.f (⟨#[97, 98]⟩ : ByteArray) 3 (⟨#[120]⟩ : ByteArray)).bind fun bt104 => ((chunk_Count.f 64).bind fun t106 => (if t106 = 1 then ((chunk_Count.f 65).bind fun t107 => (if t107 = 2 then (if bt102.1 = 64 then (if bt102.2 = 100 then (if bt104.1.toList = ([97, 98, 0, 120] : List UInt8) then (some (bt104.2 == 0)) else (some false)) else (some false)) else (some false)) else (some false))) else (some false))))) = some r := h
  clear h
  replace H := Option.bind_eq_some_iff.mp H
  obtain ⟨⟨t102, t103⟩, A10, H⟩ := H
  replace H : ((chunk_Write.f (⟨#[97, 98]⟩ : ByteArray) 3 (⟨#[120]⟩ : ByteArray)).bind fun bt104 => ((chunk_Count.f 64).bind fun t106 => (if t106 = 1 then ((chunk_Count.f 65).bind fun t107 => (if t107 = 2 then (if t102 = 64 then (if t103 = 100 then (if bt104.1.toList = ([97, 98, 0, 120] : List UInt8) then (some (bt104.2 == 0)) else (some false)) else (some false)) else (some false)) else (some false))) else (some false)))) = some r := H
  have A1 := Aside0.mk A10
  clear A10
  replace H := Option.bind_eq_some_iff.mp H
  obtain ⟨⟨t104, t105⟩, A20, H⟩ := H
  replace H : ((chunk_Count.f 64).bind fun t106 => (if t106 = 1 then ((chunk_Count.f 65).bind fun t107 => (if t107 = 2 then (if t102 = 64 then (if t103 = 100 then (if t104.toList = ([97, 98, 0, 120] : List UInt8) then (some (t105 == 0)) else (some false)) else (some false)) else (some false)) else (some false))) else (some false))) = some r := H
  have A2 := Aside0.mk A20
  clear A20
  replace H := Option.bind_eq_some_iff.mp H
  obtain ⟨t106, A30, H⟩ := H
  replace H : (if t106 = 1 then ((chunk_Count.f 65).bind fun t107 => (if t107 = 2 then (if t102 = 64 then (if t103 = 100 then (if t104.toList = ([97, 98, 0, 120] : List UInt8) then (some (t105 == 0)) else (some false)) else (some false)) else (some false)) else (some false))) else (some false)) = some r := H
  have A3 := Aside0.mk A30
  clear A30
  by_cases c4 : t106 = 1
  · rw [if_pos c4] at H
    have c4b0 : (t106 == 1) = true := beq_iff_eq.mpr c4
    have c4b1 : (t106 != 1) = false := bne_eq_false_iff_eq.mpr c4
    clear c4
    replace H := Option.bind_eq_some_iff.mp H
    obtain ⟨t107, A50, H⟩ := H
    replace H : (if t107 = 2 then (if t102 = 64 then (if t103 = 100 then (if t104.toList = ([97, 98, 0, 120] : List UInt8) then (some (t105 == 0)) else (some false)) else (some false)) else (some false)) else (some false)) = some r := H
    have A5 := Aside0.mk A50
    clear A50
    by_cases c6 : t107 = 2
    · rw [if_pos c6] at H
      have c6b0 : (t107 == 2) = true := beq_iff_eq.mpr c6
      have c6b1 : (t107 != 2) = false := bne_eq_false_iff_eq.mpr c6
      clear c6
      by_cases c7 : t102 = 64
      · rw [if_pos c7] at H
        have c7b0 : (t102 == 64) = true := beq_iff_eq.mpr c7
        have c7b1 : (t102 != 64) = false := bne_eq_false_iff_eq.mpr c7
        clear c7
        by_cases c8 : t103 = 100
        · rw [if_pos c8] at H
          have c8b0 : (t103 == 100) = true := beq_iff_eq.mpr c8
          have c8b1 : (t103 != 100) = false := bne_eq_false_iff_eq.mpr c8
          clear c8
          by_cases c9 : t104.toList = ([97, 98, 0, 120] : List UInt8)
          · rw [if_pos c9] at H
            have c9b0 : (t104.toList == ([97, 98, 0, 120] : List UInt8)) = true := beq_iff_eq.mpr c9
            have c9b1 : (t104.toList != ([97, 98, 0, 120] : List UInt8)) = false := bne_eq_false_iff_eq.mpr c9
            clear c9
            obtain rfl := Option.some.inj H
            go_enter Try.func10, Try.ntmps10
            go_wp2_with (first | ((with_reducible refine gate_callee (f := 19) rfl ?_); refine goesL_ (some 6) rfl rfl Try.func19 (by kernel_rfl) rfl #[.int .i64 100, .int .i64 1] rfl (by (try simp only [List.map_toArray, List.map_cons, List.map_nil]); first | done | rfl | (simp only [List.length_drop, List.length_take]; rfl)) ?_; (with_reducible refine (chunk_Bounds.calls 100 1 t102 t103 _ A1.out).mono ?_); rintro e w10 ⟨rfl, hb⟩; refine ⟨_, rfl, ?_⟩; have n0_ := Aside0.mk (below_step (by repeat (first | (with_reducible first | exact HB.out | apply below_alloc | apply pw_below_drewN | apply below_drew1) | exact HB.out)) hb); clear HB; have HB := n0_; clear n0_; (try clear hb); (try clear hb2); (try clear hk); (try clear hi)) | ((with_reducible refine gate_callee (f := 9) rfl ?_); refine goesL_ (some 10) rfl rfl Try.func9 (by kernel_rfl) rfl #[.string (⟨#[97, 98]⟩ : ByteArray), .int .i64 3, .string (⟨#[120]⟩ : ByteArray)] rfl (by (try simp only [List.map_toArray, List.map_cons, List.map_nil]); first | done | rfl | (simp only [List.length_drop, List.length_take]; rfl)) ?_; (with_reducible refine (chunk_Write.calls (⟨#[97, 98]⟩ : ByteArray) 3 (⟨#[120]⟩ : ByteArray) t104 t105 _ A2.out).mono ?_); rintro e w11 ⟨rfl, hb⟩; refine ⟨_, rfl, ?_⟩; have n0_ := Aside0.mk (below_step (by repeat (first | (with_reducible first | exact HB.out | apply below_alloc | apply pw_below_drewN | apply below_drew1) | exact HB.out)) hb); clear HB; have HB := n0_; clear n0_; (try clear hb); (try clear hb2); (try clear hk); (try clear hi)) | ((with_reducible refine gate_callee (f := 13) rfl ?_); refine goesL_ (some 13) rfl rfl Try.func13 (by kernel_rfl) rfl #[.int .i64 64] rfl (by (try simp only [List.map_toArray, List.map_cons, List.map_nil]); first | done | rfl | (simp only [List.length_drop, List.length_take]; rfl)) ?_; (with_reducible refine (chunk_Count.calls 64 t106 _ A3.out).mono ?_); rintro e w' ⟨rfl, ⟨nd, rfl⟩⟩; refine ⟨_, rfl, ?_⟩) | (go_at_call 13; (with_reducible refine (chunk_Count.calls 65 t107 _ A5.out).mono ?_); rintro e w' ⟨rfl, ⟨nd, rfl⟩⟩))
            go_ret
            exact ⟨by first | rfl | (simp [errW_none, errW_some] <;> rfl) | (simp [*, errW_none, errW_some] <;> rfl), by repeat (first | (with_reducible first | exact HB.out | apply below_alloc | apply pw_below_drewN | apply below_drew1) | exact HB.out)⟩
          · rw [if_neg c9] at H
            have c9b0 : (t104.toList == ([97, 98, 0, 120] : List UInt8)) = false := beq_eq_false_iff_ne.mpr c9
            have c9b1 : (t104.toList != ([97, 98, 0, 120] : List UInt8)) = true := bne_iff_ne.mpr c9
            obtain rfl := Option.some.inj H
            go_enter Try.func10, Try.ntmps10
            go_wp2_with (first | ((with_reducible refine gate_callee (f := 19) rfl ?_); refine goesL_ (some 6) rfl rfl Try.func19 (by kernel_rfl) rfl #[.int .i64 100, .int .i64 1] rfl (by (try simp only [List.map_toArray, List.map_cons, List.map_nil]); first | done | rfl | (simp only [List.length_drop, List.length_take]; rfl)) ?_; (with_reducible refine (chunk_Bounds.calls 100 1 t102 t103 _ A1.out).mono ?_); rintro e w12 ⟨rfl, hb⟩; refine ⟨_, rfl, ?_⟩; have n0_ := Aside0.mk (below_step (by repeat (first | (with_reducible first | exact HB.out | apply below_alloc | apply pw_below_drewN | apply below_drew1) | exact HB.out)) hb); clear HB; have HB := n0_; clear n0_; (try clear hb); (try clear hb2); (try clear hk); (try clear hi)) | ((with_reducible refine gate_callee (f := 9) rfl ?_); refine goesL_ (some 10) rfl rfl Try.func9 (by kernel_rfl) rfl #[.string (⟨#[97, 98]⟩ : ByteArray), .int .i64 3, .string (⟨#[120]⟩ : ByteArray)] rfl (by (try simp only [List.map_toArray, List.map_cons, List.map_nil]); first | done | rfl | (simp only [List.length_drop, List.length_take]; rfl)) ?_; (with_reducible refine (chunk_Write.calls (⟨#[97, 98]⟩ : ByteArray) 3 (⟨#[120]⟩ : ByteArray) t104 t105 _ A2.out).mono ?_); rintro e w13 ⟨rfl, hb⟩; refine ⟨_, rfl, ?_⟩; have n0_ := Aside0.mk (below_step (by repeat (first | (with_reducible first | exact HB.out | apply below_alloc | apply pw_below_drewN | apply below_drew1) | exact HB.out)) hb); clear HB; have HB := n0_; clear n0_; (try clear hb); (try clear hb2); (try clear hk); (try clear hi)) | ((with_reducible refine gate_callee (f := 13) rfl ?_); refine goesL_ (some 13) rfl rfl Try.func13 (by kernel_rfl) rfl #[.int .i64 64] rfl (by (try simp only [List.map_toArray, List.map_cons, List.map_nil]); first | done | rfl | (simp only [List.length_drop, List.length_take]; rfl)) ?_; (with_reducible refine (chunk_Count.calls 64 t106 _ A3.out).mono ?_); rintro e w' ⟨rfl, ⟨nd, rfl⟩⟩; refine ⟨_, rfl, ?_⟩) | (go_at_call 13; (with_reducible refine (chunk_Count.calls 65 t107 _ A5.out).mono ?_); rintro e w' ⟨rfl, ⟨nd, rfl⟩⟩))
            go_ret
            exact ⟨by first | rfl | (simp [errW_none, errW_some] <;> rfl) | (simp [*, errW_none, errW_some] <;> rfl), by repeat (first | (with_reducible first | exact HB.out | apply below_alloc | apply pw_below_drewN | apply below_drew1) | exact HB.out)⟩
        · rw [if_neg c8] at H
          have c8b0 : (t103 == 100) = false := beq_eq_false_iff_ne.mpr c8
          have c8b1 : (t103 != 100) = true := bne_iff_ne.mpr c8
          obtain rfl := Option.some.inj H
          go_enter Try.func10, Try.ntmps10
          go_wp2_with (first | ((with_reducible refine gate_callee (f := 19) rfl ?_); refine goesL_ (some 6) rfl rfl Try.func19 (by kernel_rfl) rfl #[.int .i64 100, .int .i64 1] rfl (by (try simp only [List.map_toArray, List.map_cons, List.map_nil]); first | done | rfl | (simp only [List.length_drop, List.length_take]; rfl)) ?_; (with_reducible refine (chunk_Bounds.calls 100 1 t102 t103 _ A1.out).mono ?_); rintro e w14 ⟨rfl, hb⟩; refine ⟨_, rfl, ?_⟩; have n0_ := Aside0.mk (below_step (by repeat (first | (with_reducible first | exact HB.out | apply below_alloc | apply pw_below_drewN | apply below_drew1) | exact HB.out)) hb); clear HB; have HB := n0_; clear n0_; (try clear hb); (try clear hb2); (try clear hk); (try clear hi)) | ((with_reducible refine gate_callee (f := 9) rfl ?_); refine goesL_ (some 10) rfl rfl Try.func9 (by kernel_rfl) rfl #[.string (⟨#[97, 98]⟩ : ByteArray), .int .i64 3, .string (⟨#[120]⟩ : ByteArray)] rfl (by (try simp only [List.map_toArray, List.map_cons, List.map_nil]); first | done | rfl | (simp only [List.length_drop, List.length_take]; rfl)) ?_; (with_reducible refine (chunk_Write.calls (⟨#[97, 98]⟩ : ByteArray) 3 (⟨#[120]⟩ : ByteArray) t104 t105 _ A2.out).mono ?_); rintro e w15 ⟨rfl, hb⟩; refine ⟨_, rfl, ?_⟩; have n0_ := Aside0.mk (below_step (by repeat (first | (with_reducible first | exact HB.out | apply below_alloc | apply pw_below_drewN | apply below_drew1) | exact HB.out)) hb); clear HB; have HB := n0_; clear n0_; (try clear hb); (try clear hb2); (try clear hk); (try clear hi)) | ((with_reducible refine gate_callee (f := 13) rfl ?_); refine goesL_ (some 13) rfl rfl Try.func13 (by kernel_rfl) rfl #[.int .i64 64] rfl (by (try simp only [List.map_toArray, List.map_cons, List.map_nil]); first | done | rfl | (simp only [List.length_drop, List.length_take]; rfl)) ?_; (with_reducible refine (chunk_Count.calls 64 t106 _ A3.out).mono ?_); rintro e w' ⟨rfl, ⟨nd, rfl⟩⟩; refine ⟨_, rfl, ?_⟩) | (go_at_call 13; (with_reducible refine (chunk_Count.calls 65 t107 _ A5.out).mono ?_); rintro e w' ⟨rfl, ⟨nd, rfl⟩⟩))
          go_ret
          exact ⟨by first | rfl | (simp [errW_none, errW_some] <;> rfl) | (simp [*, errW_none, errW_some] <;> rfl), by repeat (first | (with_reducible first | exact HB.out | apply below_alloc | apply pw_below_drewN | apply below_drew1) | exact HB.out)⟩
      · rw [if_neg c7] at H
        have c7b0 : (t102 == 64) = false := beq_eq_false_iff_ne.mpr c7
        have c7b1 : (t102 != 64) = true := bne_iff_ne.mpr c7
        obtain rfl := Option.some.inj H
        go_enter Try.func10, Try.ntmps10
        go_wp2_with (first | ((with_reducible refine gate_callee (f := 19) rfl ?_); refine goesL_ (some 6) rfl rfl Try.func19 (by kernel_rfl) rfl #[.int .i64 100, .int .i64 1] rfl (by (try simp only [List.map_toArray, List.map_cons, List.map_nil]); first | done | rfl | (simp only [List.length_drop, List.length_take]; rfl)) ?_; (with_reducible refine (chunk_Bounds.calls 100 1 t102 t103 _ A1.out).mono ?_); rintro e w16 ⟨rfl, hb⟩; refine ⟨_, rfl, ?_⟩; have n0_ := Aside0.mk (below_step (by repeat (first | (with_reducible first | exact HB.out | apply below_alloc | apply pw_below_drewN | apply below_drew1) | exact HB.out)) hb); clear HB; have HB := n0_; clear n0_; (try clear hb); (try clear hb2); (try clear hk); (try clear hi)) | ((with_reducible refine gate_callee (f := 9) rfl ?_); refine goesL_ (some 10) rfl rfl Try.func9 (by kernel_rfl) rfl #[.string (⟨#[97, 98]⟩ : ByteArray), .int .i64 3, .string (⟨#[120]⟩ : ByteArray)] rfl (by (try simp only [List.map_toArray, List.map_cons, List.map_nil]); first | done | rfl | (simp only [List.length_drop, List.length_take]; rfl)) ?_; (with_reducible refine (chunk_Write.calls (⟨#[97, 98]⟩ : ByteArray) 3 (⟨#[120]⟩ : ByteArray) t104 t105 _ A2.out).mono ?_); rintro e w17 ⟨rfl, hb⟩; refine ⟨_, rfl, ?_⟩; have n0_ := Aside0.mk (below_step (by repeat (first | (with_reducible first | exact HB.out | apply below_alloc | apply pw_below_drewN | apply below_drew1) | exact HB.out)) hb); clear HB; have HB := n0_; clear n0_; (try clear hb); (try clear hb2); (try clear hk); (try clear hi)) | ((with_reducible refine gate_callee (f := 13) rfl ?_); refine goesL_ (some 13) rfl rfl Try.func13 (by kernel_rfl) rfl #[.int .i64 64] rfl (by (try simp only [List.map_toArray, List.map_cons, List.map_nil]); first | done | rfl | (simp only [List.length_drop, List.length_take]; rfl)) ?_; (with_reducible refine (chunk_Count.calls 64 t106 _ A3.out).mono ?_); rintro e w' ⟨rfl, ⟨nd, rfl⟩⟩; refine ⟨_, rfl, ?_⟩) | (go_at_call 13; (with_reducible refine (chunk_Count.calls 65 t107 _ A5.out).mono ?_); rintro e w' ⟨rfl, ⟨nd, rfl⟩⟩))
        go_ret
        exact ⟨by first | rfl | (simp [errW_none, errW_some] <;> rfl) | (simp [*, errW_none, errW_some] <;> rfl), by repeat (first | (with_reducible first | exact HB.out | apply below_alloc | apply pw_below_drewN | apply below_drew1) | exact HB.out)⟩
    · rw [if_neg c6] at H
      have c6b0 : (t107 == 2) = false := beq_eq_false_iff_ne.mpr c6
      have c6b1 : (t107 != 2) = true := bne_iff_ne.mpr c6
      obtain rfl := Option.some.inj H
      go_enter Try.func10, Try.ntmps10
      go_wp2_with (first | ((with_reducible refine gate_callee (f := 19) rfl ?_); refine goesL_ (some 6) rfl rfl Try.func19 (by kernel_rfl) rfl #[.int .i64 100, .int .i64 1] rfl (by (try simp only [List.map_toArray, List.map_cons, List.map_nil]); first | done | rfl | (simp only [List.length_drop, List.length_take]; rfl)) ?_; (with_reducible refine (chunk_Bounds.calls 100 1 t102 t103 _ A1.out).mono ?_); rintro e w18 ⟨rfl, hb⟩; refine ⟨_, rfl, ?_⟩; have n0_ := Aside0.mk (below_step (by repeat (first | (with_reducible first | exact HB.out | apply below_alloc | apply pw_below_drewN | apply below_drew1) | exact HB.out)) hb); clear HB; have HB := n0_; clear n0_; (try clear hb); (try clear hb2); (try clear hk); (try clear hi)) | ((with_reducible refine gate_callee (f := 9) rfl ?_); refine goesL_ (some 10) rfl rfl Try.func9 (by kernel_rfl) rfl #[.string (⟨#[97, 98]⟩ : ByteArray), .int .i64 3, .string (⟨#[120]⟩ : ByteArray)] rfl (by (try simp only [List.map_toArray, List.map_cons, List.map_nil]); first | done | rfl | (simp only [List.length_drop, List.length_take]; rfl)) ?_; (with_reducible refine (chunk_Write.calls (⟨#[97, 98]⟩ : ByteArray) 3 (⟨#[120]⟩ : ByteArray) t104 t105 _ A2.out).mono ?_); rintro e w19 ⟨rfl, hb⟩; refine ⟨_, rfl, ?_⟩; have n0_ := Aside0.mk (below_step (by repeat (first | (with_reducible first | exact HB.out | apply below_alloc | apply pw_below_drewN | apply below_drew1) | exact HB.out)) hb); clear HB; have HB := n0_; clear n0_; (try clear hb); (try clear hb2); (try clear hk); (try clear hi)) | ((with_reducible refine gate_callee (f := 13) rfl ?_); refine goesL_ (some 13) rfl rfl Try.func13 (by kernel_rfl) rfl #[.int .i64 64] rfl (by (try simp only [List.map_toArray, List.map_cons, List.map_nil]); first | done | rfl | (simp only [List.length_drop, List.length_take]; rfl)) ?_; (with_reducible refine (chunk_Count.calls 64 t106 _ A3.out).mono ?_); rintro e w' ⟨rfl, ⟨nd, rfl⟩⟩; refine ⟨_, rfl, ?_⟩) | (go_at_call 13; (with_reducible refine (chunk_Count.calls 65 t107 _ A5.out).mono ?_); rintro e w' ⟨rfl, ⟨nd, rfl⟩⟩))
      go_ret
      exact ⟨by first | rfl | (simp [errW_none, errW_some] <;> rfl) | (simp [*, errW_none, errW_some] <;> rfl), by repeat (first | (with_reducible first | exact HB.out | apply below_alloc | apply pw_below_drewN | apply below_drew1) | exact HB.out)⟩
  · rw [if_neg c4] at H
    have c4b0 : (t106 == 1) = false := beq_eq_false_iff_ne.mpr c4
    have c4b1 : (t106 != 1) = true := bne_iff_ne.mpr c4
    obtain rfl := Option.some.inj H
    go_enter Try.func10, Try.ntmps10
    go_wp2_with (first | ((with_reducible refine gate_callee (f := 19) rfl ?_); refine goesL_ (some 6) rfl rfl Try.func19 (by kernel_rfl) rfl #[.int .i64 100, .int .i64 1] rfl (by (try simp only [List.map_toArray, List.map_cons, List.map_nil]); first | done | rfl | (simp only [List.length_drop, List.length_take]; rfl)) ?_; (with_reducible refine (chunk_Bounds.calls 100 1 t102 t103 _ A1.out).mono ?_); rintro e w20 ⟨rfl, hb⟩; refine ⟨_, rfl, ?_⟩; have n0_ := Aside0.mk (below_step (by repeat (first | (with_reducible first | exact HB.out | apply below_alloc | apply pw_below_drewN | apply below_drew1) | exact HB.out)) hb); clear HB; have HB := n0_; clear n0_; (try clear hb); (try clear hb2); (try clear hk); (try clear hi)) | ((with_reducible refine gate_callee (f := 9) rfl ?_); refine goesL_ (some 10) rfl rfl Try.func9 (by kernel_rfl) rfl #[.string (⟨#[97, 98]⟩ : ByteArray), .int .i64 3, .string (⟨#[120]⟩ : ByteArray)] rfl (by (try simp only [List.map_toArray, List.map_cons, List.map_nil]); first | done | rfl | (simp only [List.length_drop, List.length_take]; rfl)) ?_; (with_reducible refine (chunk_Write.calls (⟨#[97, 98]⟩ : ByteArray) 3 (⟨#[120]⟩ : ByteArray) t104 t105 _ A2.out).mono ?_); rintro e w21 ⟨rfl, hb⟩; refine ⟨_, rfl, ?_⟩; have n0_ := Aside0.mk (below_step (by repeat (first | (with_reducible first | exact HB.out | apply below_alloc | apply pw_below_drewN | apply below_drew1) | exact HB.out)) hb); clear HB; have HB := n0_; clear n0_; (try clear hb); (try clear hb2); (try clear hk); (try clear hi)) | ((with_reducible refine gate_callee (f := 13) rfl ?_); refine goesL_ (some 13) rfl rfl Try.func13 (by kernel_rfl) rfl #[.int .i64 64] rfl (by (try simp only [List.map_toArray, List.map_cons, List.map_nil]); first | done | rfl | (simp only [List.length_drop, List.length_take]; rfl)) ?_; (with_reducible refine (chunk_Count.calls 64 t106 _ A3.out).mono ?_); rintro e w' ⟨rfl, ⟨nd, rfl⟩⟩; refine ⟨_, rfl, ?_⟩))
    go_ret
    exact ⟨by first | rfl | (simp [errW_none, errW_some] <;> rfl) | (simp [*, errW_none, errW_some] <;> rfl), by repeat (first | (with_reducible first | exact HB.out | apply below_alloc | apply pw_below_drewN | apply below_drew1) | exact HB.out)⟩

/-! ### chunk_Read: function 11 -/
def chunk_Read.f (a0 : ByteArray) (a1 : Int) (a2 : Int) : Option (ByteArray × Int) :=
  if (a0.size : Int) > 4096 then (some ((⟨#[]⟩ : ByteArray), 3)) else (if a1 < 0 then (some ((⟨#[]⟩ : ByteArray), 2)) else (if a2 < 0 then (some ((⟨#[]⟩ : ByteArray), 2)) else (if a1 > (a0.size : Int) then (some ((⟨#[]⟩ : ByteArray), 2)) else (some ((a0.extract a1.toNat a0.size).extract 0 (min a2.toNat (a0.size - a1.toNat)), 0)))))
set_option maxHeartbeats 1000000 in
theorem chunk_Read.calls (a0 : ByteArray) (a1 : Int) (a2 : Int) (r1 : ByteArray) (r2 : Int) (w : World) (h : chunk_Read.f a0 a1 a2 = some (r1, r2)) :
    Calls Try.prog 11 #[.string a0, .int .i64 a1, .int .i64 a2] w fun e w' => e = .returned (.tuple #[.string r1, .int .i64 r2]) ∧ Below w.heap.size w w' := by
  unfold chunk_Read.f at h
  by_cases c1 : (a0.size : Int) > 4096
  · rw [if_pos c1] at h
    simp only [Option.some.injEq, Prod.mk.injEq] at h
    obtain ⟨rfl, rfl⟩ := h
    have c1b : decide (4096 < a0.size) = true := decide_eq_true (by omega)
    go_enter Try.func11, Try.ntmps11
    go_wp2
    go_ret2
    exact ⟨rfl, Below.refl _ _⟩
  rw [if_neg c1] at h
  have c1b : decide (4096 < a0.size) = false := decide_eq_false (by omega)
  by_cases c2 : a1 < 0
  · rw [if_pos c2] at h
    simp only [Option.some.injEq, Prod.mk.injEq] at h
    obtain ⟨rfl, rfl⟩ := h
    go_enter Try.func11, Try.ntmps11
    go_wp2
    go_ret2
    exact ⟨rfl, Below.refl _ _⟩
  rw [if_neg c2] at h
  by_cases c3 : a2 < 0
  · rw [if_pos c3] at h
    simp only [Option.some.injEq, Prod.mk.injEq] at h
    obtain ⟨rfl, rfl⟩ := h
    go_enter Try.func11, Try.ntmps11
    go_wp2
    go_ret2
    exact ⟨rfl, Below.refl _ _⟩
  rw [if_neg c3] at h
  by_cases c4 : a1 > (a0.size : Int)
  · rw [if_pos c4] at h
    simp only [Option.some.injEq, Prod.mk.injEq] at h
    obtain ⟨rfl, rfl⟩ := h
    go_enter Try.func11, Try.ntmps11
    go_wp2
    go_ret2
    exact ⟨rfl, Below.refl _ _⟩
  rw [if_neg c4] at h
  obtain ⟨off, rfl⟩ := Int.eq_ofNat_of_zero_le (show 0 ≤ a1 by omega)
  obtain ⟨n, rfl⟩ := Int.eq_ofNat_of_zero_le (show 0 ≤ a2 by omega)
  simp only [Option.some.injEq, Prod.mk.injEq, Int.toNat_natCast] at h
  obtain ⟨rfl, rfl⟩ := h
  have c4b : decide (a0.size < off) = false := decide_eq_false (by omega)
  obtain ⟨k, hk⟩ : ∃ k : Nat, min n (a0.size - off) = k := ⟨_, rfl⟩
  have hmi : (if (a0.size : Int) - (off : Int) < (n : Int) then (a0.size : Int) - (off : Int) else (n : Int)) = (k : Int) := by split <;> omega
  obtain ⟨t, ht⟩ : ∃ t, a0.extract off a0.size = t := ⟨_, rfl⟩
  have hts : t.size = a0.size - off := by rw [← ht]; simp
  have h1 : ∀ W : World, (Instr.slice 9 (.string a0) (some (.int .i64 (off : Int))) none none).run Try.prog W = .ok (.string t) W := by
    intro W
    rw [run_slice_string_l W 9 a0 Try.underlying9 .i64 (off : Int) (by omega) (by omega), Int.toNat_natCast, ht]
  have h2 : ∀ W : World, (Instr.slice 9 (.string t) none (some (.int .i64 (k : Int))) none).run Try.prog W = .ok (.string (t.extract 0 k)) W := by
    intro W
    rw [run_slice_string_h W 9 t Try.underlying9 .i64 (k : Int) (by omega) (by omega), Int.toNat_natCast]
  rw [ht, hk]
  clear ht hk hts
  go_enter Try.func11, Try.ntmps11
  go_wp2
  go_ret2
  exact ⟨rfl, Below.refl _ _⟩


/-! ### aquiferref15_noughts: function 27 -/
def aquiferref15_noughts.l0 : Nat → ByteArray → Int → Option (ByteArray)
  | 0, _, _ => none
  | k + 1, x0, x1 => if (x0.size : Int) < x1 then (if x0.size + 1 ≤ 9223372036854775807 then (aquiferref15_noughts.l0 k (x0 ++ (⟨#[0]⟩ : ByteArray)) x1) else (none)) else (some x0)
def aquiferref15_noughts.f (k : Nat) (a0 : ByteArray) (a1 : Int) : Option (ByteArray) := aquiferref15_noughts.l0 k a0 a1
theorem aquiferref15_noughts.mono_l : ∀ k, (∀ y0 y1, LeO (aquiferref15_noughts.l0 k y0 y1) (aquiferref15_noughts.l0 (k + 1) y0 y1))
  | 0 => fun _ _ r h => by simp [aquiferref15_noughts.l0] at h
  | k + 1 => by
    have ih0 := aquiferref15_noughts.mono_l k
    · intro y0 y1
      unfold aquiferref15_noughts.l0
      repeat' first
      | (with_reducible exact ih0 _ _)
      | (with_reducible exact LeO.refl _)
      | (with_reducible exact LeO.none _)
      | (with_reducible refine LeO.ite ?_ ?_)
      | (with_reducible refine LeO.bind ?_ (fun _ => ?_))
      | exact ih0 _ _
      | exact LeO.none _
      | refine LeO.ite ?_ ?_
      | refine LeO.bind ?_ (fun _ => ?_)
theorem aquiferref15_noughts.mono : ∀ a0 a1 k, LeO (aquiferref15_noughts.f k a0 a1) (aquiferref15_noughts.f (k + 1) a0 a1) := by
  intro a0 a1 k
  have ih0 := aquiferref15_noughts.mono_l k
  unfold aquiferref15_noughts.f
  repeat' first
      | (with_reducible exact ih0 _ _)
      | (with_reducible exact LeO.refl _)
      | (with_reducible exact LeO.none _)
      | (with_reducible refine LeO.ite ?_ ?_)
      | (with_reducible refine LeO.bind ?_ (fun _ => ?_))
      | exact ih0 _ _
      | exact LeO.none _
      | refine LeO.ite ?_ ?_
      | refine LeO.bind ?_ (fun _ => ?_)
set_option maxHeartbeats 8000000 in
set_option maxRecDepth 100000 in
theorem aquiferref15_noughts.calls (k : Nat) (a0 : ByteArray) (a1 : Int) (r : ByteArray) (w : World) (h : aquiferref15_noughts.f k a0 a1 = some r) :
    Calls Try.prog 27 #[.string a0, .int .i64 a1] w fun e w' => e = .returned (.string r) ∧ Drawn0 w w' := by
  have H : (aquiferref15_noughts.l0 k a0 a1) = some r := h
  clear h
  have H' := Aside0.mk H
  clear H
  go_enter Try.func27, Try.ntmps27
  go_wp2
  go_loopg [0] k (fun kq v0 w' => ∃ (x0_1 : ByteArray), v0 = .string x0_1 ∧ Aside0 (aquiferref15_noughts.l0 kq x0_1 a1 = some r) ∧ Aside0 (kq ≤ k) ∧ Drawn0 w w')
  case atStart => exact ⟨(a0), (by first | rfl | (simp; done) | (simp [*]; done)), H', ⟨Nat.le_refl _⟩, by repeat (first | exact Drawn0.refl _ | apply Drawn0.step)⟩
  case round =>
    clear H'
    try clear c2
    try clear p2
    obtain ⟨x0_1, rfl, HA, HK1, ⟨m1, rfl⟩⟩ := hrel
    cases gk with
    | zero => exact absurd HA.out (by simp [aquiferref15_noughts.l0])
    | succ k1 =>
      have H := HA.out
      clear HA
      simp only [aquiferref15_noughts.l0] at H
      by_cases c3 : (x0_1.size : Int) < a1
      · rw [if_pos c3] at H
        have c3b0 : decide ((x0_1.size : Int) < a1) = true := decide_eq_true c3
        clear c3
        by_cases c4 : x0_1.size + 1 ≤ 9223372036854775807
        · rw [if_pos c4] at H
          have c4b0 := eq_true c4
          have c4b1 : decide (x0_1.size + 1 ≤ 9223372036854775807) = true := decide_eq_true c4
          try have c4b2 : (9223372036854775807 < x0_1.size + 1) = False := eq_false (Nat.not_lt.2 c4)
          (try (have c4b3_ := c4b2; simp only [ByteArray.size_append, Nat.add_zero] at c4b3_))
          have H' := Aside0.mk H
          clear H
          go_wp2
          go_roundg k1
          case measure => have := HK1.out; omega
          case rel => exact ⟨(x0_1 ++ (⟨#[0]⟩ : ByteArray)), (by first | rfl | (simp; done) | (simp [*]; done)), H', ⟨by have := HK1.out; omega⟩, by repeat (first | exact Drawn0.refl _ | apply Drawn0.step)⟩
        · rw [if_neg c4] at H
          exact absurd H (by simp)
      · rw [if_neg c3] at H
        have c3b0 : decide ((x0_1.size : Int) < a1) = false := decide_eq_false c3
        clear c3
        obtain rfl := Option.some.inj H
        go_wp2
        go_ret
        exact ⟨by first | rfl | (simp; done) | (simp [*]; done), by repeat (first | exact Drawn0.refl _ | apply Drawn0.step)⟩

/-! ### aquiferref15_Write: function 15 -/
def aquiferref15_Write.f (k : Nat) (a0 : ByteArray) (a1 : Int) (a2 : ByteArray) : Option (ByteArray × Int) :=
  if (a0.size : Int) > 4096 then (some ((⟨#[]⟩ : ByteArray), 3)) else (if a1 < 0 then (some ((⟨#[]⟩ : ByteArray), 2)) else (if a1 > 4096 then (some ((⟨#[]⟩ : ByteArray), 3)) else (if (a2.size : Int) > 4096 - a1 then (some ((⟨#[]⟩ : ByteArray), 3)) else ((aquiferref15_noughts.f k a0 a1).bind fun t => if a1 ≤ (t.size : Int) then (if t.size ≤ 4096 then some ((t.extract 0 a1.toNat ++ a2) ++ (if a1.toNat + a2.size < t.size then t.extract (a1.toNat + a2.size) t.size else ⟨#[]⟩), 0) else none) else none))))
theorem aquiferref15_Write.mono : ∀ a0 a1 a2 k, LeO (aquiferref15_Write.f k a0 a1 a2) (aquiferref15_Write.f (k + 1) a0 a1 a2) := by
  intro a0 a1 a2 k
  unfold aquiferref15_Write.f
  repeat' first
      | (with_reducible exact aquiferref15_noughts.mono _ _ _)
      | (with_reducible exact LeO.refl _)
      | (with_reducible refine LeO.ite ?_ ?_)
      | (with_reducible refine LeO.bind ?_ (fun _ => ?_))
set_option maxHeartbeats 1000000 in
theorem aquiferref15_Write.calls (k : Nat) (a0 : ByteArray) (a1 : Int) (a2 : ByteArray) (r1 : ByteArray) (r2 : Int) (w : World) (h : aquiferref15_Write.f k a0 a1 a2 = some (r1, r2)) :
    Calls Try.prog 15 #[.string a0, .int .i64 a1, .string a2] w fun e w' => e = .returned (.tuple #[.string r1, .int .i64 r2]) ∧ Drawn0 w w' := by
  unfold aquiferref15_Write.f at h
  by_cases c1 : (a0.size : Int) > 4096
  · rw [if_pos c1] at h
    simp only [Option.some.injEq, Prod.mk.injEq] at h
    obtain ⟨rfl, rfl⟩ := h
    have c1b : decide (4096 < a0.size) = true := decide_eq_true (by omega)
    go_enter Try.func15, Try.ntmps15
    go_wp2
    go_ret2
    exact ⟨rfl, Drawn0.refl _⟩
  rw [if_neg c1] at h
  have c1b : decide (4096 < a0.size) = false := decide_eq_false (by omega)
  by_cases c2 : a1 < 0
  · rw [if_pos c2] at h
    simp only [Option.some.injEq, Prod.mk.injEq] at h
    obtain ⟨rfl, rfl⟩ := h
    go_enter Try.func15, Try.ntmps15
    go_wp2
    go_ret2
    exact ⟨rfl, Drawn0.refl _⟩
  rw [if_neg c2] at h
  by_cases c3 : a1 > 4096
  · rw [if_pos c3] at h
    simp only [Option.some.injEq, Prod.mk.injEq] at h
    obtain ⟨rfl, rfl⟩ := h
    go_enter Try.func15, Try.ntmps15
    go_wp2
    go_ret2
    exact ⟨rfl, Drawn0.refl _⟩
  rw [if_neg c3] at h
  obtain ⟨off, rfl⟩ := Int.eq_ofNat_of_zero_le (show 0 ≤ a1 by omega)
  by_cases c4 : (a2.size : Int) > 4096 - (off : Int)
  · rw [if_pos c4] at h
    simp only [Option.some.injEq, Prod.mk.injEq] at h
    obtain ⟨rfl, rfl⟩ := h
    go_enter Try.func15, Try.ntmps15
    go_wp2
    go_ret2
    exact ⟨rfl, Drawn0.refl _⟩
  rw [if_neg c4] at h
  replace h := Option.bind_eq_some_iff.mp h
  obtain ⟨t, hA, h⟩ := h
  have A5 := Aside0.mk hA
  clear hA
  by_cases c5 : (off : Int) ≤ (t.size : Int)
  case neg => rw [if_neg c5] at h; cases h
  rw [if_pos c5] at h
  by_cases c6 : t.size ≤ 4096
  case neg => rw [if_neg c6] at h; cases h
  rw [if_pos c6] at h
  simp only [Option.some.injEq, Prod.mk.injEq, Int.toNat_natCast] at h
  obtain ⟨hr, rfl⟩ := h
  obtain ⟨p, hp⟩ : ∃ p, t.extract 0 off = p := ⟨_, rfl⟩
  have hps : p.size ≤ 4096 := by rw [← hp]; simp; omega
  have h1 : ∀ W : World, (Instr.slice 9 (.string t) none (some (.int .i64 (off : Int))) none).run Try.prog W = .ok (.string p) W := by
    intro W
    rw [run_slice_string_h W 9 t Try.underlying9 .i64 (off : Int) (by omega) (by omega), Int.toNat_natCast, hp]
  rw [hp] at hr
  clear hp
  have h2 : ∀ W : World, (Op.stringOp .add p a2).run Try.prog W = .ok (.string (p ++ a2)) W := fun W => run_string_add_sum W p a2 (by omega)
  obtain ⟨q, hq⟩ : ∃ q, p ++ a2 = q := ⟨_, rfl⟩
  have hqs : q.size ≤ 8192 := by rw [← hq, ByteArray.size_append]; omega
  rw [hq] at hr
  by_cases c7 : off + a2.size < t.size
  · rw [if_pos c7] at hr
    obtain ⟨z, hz⟩ : ∃ z, t.extract (off + a2.size) t.size = z := ⟨_, rfl⟩
    have hzs : z.size ≤ 4096 := by rw [← hz]; simp; omega
    have h3 : ∀ W : World, (Instr.slice 9 (.string t) (some (.int .i64 ((off : Int) + (a2.size : Int)))) none none).run Try.prog W = .ok (.string z) W := by
      intro W
      rw [run_slice_string_l W 9 t Try.underlying9 .i64 ((off : Int) + (a2.size : Int)) (by omega) (by omega), ← hz]
      congr 3
    rw [hz] at hr
    clear hz
    have h4 : ∀ W : World, (Op.stringOp .add q z).run Try.prog W = .ok (.string (q ++ z)) W := fun W => run_string_add_sum W q z (by omega)
    have hR := Aside0.mk hr
    clear hr
    go_enter Try.func15, Try.ntmps15
    go_wp2_with (first | (go_at_call 27; (with_reducible refine (aquiferref15_noughts.calls k a0 off t _ A5.out).mono ?_); rintro e w' ⟨rfl, ⟨nd, rfl⟩⟩))
    go_ret2
    exact ⟨by rw [← hR.out]; rfl, by repeat (first | exact Drawn0.refl _ | apply Drawn0.step)⟩
  · rw [if_neg c7] at hr
    have h4 : ∀ W : World, (Op.stringOp .add q ⟨#[]⟩).run Try.prog W = .ok (.string (q ++ ⟨#[]⟩)) W := fun W => run_string_add_sum W q ⟨#[]⟩ (by simp [ByteArray.size_mk']; omega)
    have hR := Aside0.mk hr
    clear hr
    go_enter Try.func15, Try.ntmps15
    go_wp2_with (first | (go_at_call 27; (with_reducible refine (aquiferref15_noughts.calls k a0 off t _ A5.out).mono ?_); rintro e w' ⟨rfl, ⟨nd, rfl⟩⟩))
    go_ret2
    exact ⟨by rw [← hR.out]; rfl, by repeat (first | exact Drawn0.refl _ | apply Drawn0.step)⟩


/-! ### chunk_Truncate: function 16 -/
def chunk_Truncate.f (a0 : ByteArray) (a1 : Int) : Option (ByteArray × Int) :=
  if (a0.size : Int) > 4096 then (some ((⟨#[]⟩ : ByteArray), 3)) else (if a1 < 0 then (some ((⟨#[]⟩ : ByteArray), 2)) else (if a1 > 4096 then (some ((⟨#[]⟩ : ByteArray), 3)) else (some (strOfNums (Copy.over (List.replicate a1.toNat 0) 0 ((bytesOf a0).take (min a0.size a1.toNat))), 0))))
set_option maxHeartbeats 1000000 in
theorem chunk_Truncate.calls (a0 : ByteArray) (a1 : Int) (r1 : ByteArray) (r2 : Int) (w : World) (h : chunk_Truncate.f a0 a1 = some (r1, r2)) :
    Calls Try.prog 16 #[.string a0, .int .i64 a1] w fun e w' => e = .returned (.tuple #[.string r1, .int .i64 r2]) ∧ Below w.heap.size w w' := by
  unfold chunk_Truncate.f at h
  by_cases c1 : (a0.size : Int) > 4096
  · rw [if_pos c1] at h
    simp only [Option.some.injEq, Prod.mk.injEq] at h
    obtain ⟨rfl, rfl⟩ := h
    have c1b : decide (4096 < a0.size) = true := decide_eq_true (by omega)
    go_enter Try.func16, Try.ntmps16
    go_wp2
    go_ret2
    exact ⟨rfl, Below.refl _ _⟩
  rw [if_neg c1] at h
  have c1b : decide (4096 < a0.size) = false := decide_eq_false (by omega)
  by_cases c2 : a1 < 0
  · rw [if_pos c2] at h
    simp only [Option.some.injEq, Prod.mk.injEq] at h
    obtain ⟨rfl, rfl⟩ := h
    go_enter Try.func16, Try.ntmps16
    go_wp2
    go_ret2
    exact ⟨rfl, Below.refl _ _⟩
  rw [if_neg c2] at h
  by_cases c3 : a1 > 4096
  · rw [if_pos c3] at h
    simp only [Option.some.injEq, Prod.mk.injEq] at h
    obtain ⟨rfl, rfl⟩ := h
    go_enter Try.func16, Try.ntmps16
    go_wp2
    go_ret2
    exact ⟨rfl, Below.refl _ _⟩
  rw [if_neg c3] at h
  obtain ⟨m, rfl⟩ := Int.eq_ofNat_of_zero_le (show 0 ≤ a1 by omega)
  simp only [Option.some.injEq, Prod.mk.injEq, Int.toNat_natCast] at h
  obtain ⟨rfl, rfl⟩ := h
  obtain ⟨n, hn⟩ : ∃ n : Nat, min a0.size m = n := ⟨_, rfl⟩
  obtain ⟨t, ht⟩ : ∃ t, strOfNums (Copy.over (List.replicate m 0) 0 ((bytesOf a0).take n)) = t := ⟨_, rfl⟩
  rw [hn, ht]
  have HT := Aside0.mk ht
  have HN := Aside0.mk hn
  have hnm : n ≤ m := by omega
  clear ht hn
  have hmk := print_make (P := Try.prog) 32 5 .u8 1 Try.underlying32 info5 (by omega) m (by omega)
  obtain ⟨i5, hi5, hz5⟩ := Option.map_eq_some_iff.1 info5
  have hs5 : (Try.prog.info? 5).map (fun i => i.size) = some 1 := by rw [hi5]; simp only [Prod.mk.injEq] at hz5; simp [hz5.2.1]
  clear hi5 hz5
  go_enter Try.func16, Try.ntmps16
  go_wp2_with (first
    | (with_reducible refine Copy.copy_str (w0 := w) w.heap.size rfl (.tmp 19) (.tmp 20) 32 9 5 rfl Try.underlying32 hs5 w.heap.size m m (List.replicate m 0) 0 _ m m rfl a0 rfl n HN.out (fun _ => rfl) (by omega) (own_made w w.heap.size 5 .u8 m (Nat.le_refl _) (by omega)) ((Below.refl _ _).alloc (Nat.le_refl _) _) ?_; intro w1 HO1 HB1 hz1; have kst := own_string (P := Try.prog) Try.underlying32 Try.underlying5 Try.underlying9 HO1))
  go_ret2
  exact ⟨by rw [← HT.out]; rfl, HB1⟩


/-! ### aquiferref15_Truncate: function 17 -/
def aquiferref15_Truncate.f (k : Nat) (a0 : ByteArray) (a1 : Int) : Option (ByteArray × Int) := if (a0.size : Int) > 4096 then (some ((⟨#[]⟩ : ByteArray), 3)) else (if a1 < 0 then (some ((⟨#[]⟩ : ByteArray), 2)) else (if a1 > 4096 then (some ((⟨#[]⟩ : ByteArray), 3)) else ((aquiferref15_noughts.f k a0 a1).bind fun t108 => (if 0 ≤ a1 then (if a1 ≤ (t108.size : Int) then (some (t108.extract 0 (a1 : Int).toNat, 0)) else (none)) else (none)))))
theorem aquiferref15_Truncate.mono : ∀ a0 a1 k, LeO (aquiferref15_Truncate.f k a0 a1) (aquiferref15_Truncate.f (k + 1) a0 a1) := by
  intro a0 a1 k
  unfold aquiferref15_Truncate.f
  repeat' first
      | (with_reducible exact aquiferref15_noughts.mono _ _ _)
      | (with_reducible exact LeO.refl _)
      | (with_reducible exact LeO.none _)
      | (with_reducible refine LeO.ite ?_ ?_)
      | (with_reducible refine LeO.bind ?_ (fun _ => ?_))
      | exact aquiferref15_noughts.mono _ _ _
      | exact LeO.none _
      | refine LeO.ite ?_ ?_
      | refine LeO.bind ?_ (fun _ => ?_)
set_option maxHeartbeats 8000000 in
set_option maxRecDepth 100000 in
theorem aquiferref15_Truncate.calls (k : Nat) (a0 : ByteArray) (a1 : Int) (r1 : ByteArray) (r2 : Int) (w : World) (h : aquiferref15_Truncate.f k a0 a1 = some (r1, r2)) :
    Calls Try.prog 17 #[.string a0, .int .i64 a1] w fun e w' => e = .returned (.tuple #[.string r1, .int .i64 r2]) ∧ Drawn0 w w' := by
  have H : (if (a0.size : Int) > 4096 then (some ((⟨#[]⟩ : ByteArray), 3)) else (if a1 < 0 then (some ((⟨#[]⟩ : ByteArray), 2)) else (if a1 > 4096 then (some ((⟨#[]⟩ : ByteArray), 3)) else ((aquiferref15_noughts.f k a0 a1).bind fun t108 => (if 0 ≤ a1 then (if a1 ≤ (t108.size : Int) then (some (t108.extract 0 (a1 : Int).toNat, 0)) else (none)) else (none)))))) = some (r1, r2) := h
  clear h
  by_cases c3 : (a0.size : Int) > 4096
  · rw [if_pos c3] at H
    have c3b0 : decide (4096 < (a0.size : Int)) = true := decide_eq_true c3
    have c3b1 : decide (4096 < a0.size) = true := decide_eq_true (by omega)
    clear c3
    simp only [Option.some.injEq, Prod.mk.injEq] at H
    obtain ⟨rfl, rfl⟩ := H
    go_enter Try.func17, Try.ntmps17
    go_wp2
    go_ret2
    exact ⟨by first | rfl | (simp; done) | (simp [*]; done), by repeat (first | exact Drawn0.refl _ | apply Drawn0.step)⟩
  · rw [if_neg c3] at H
    have c3b0 : decide (4096 < (a0.size : Int)) = false := decide_eq_false c3
    have c3b1 : decide (4096 < a0.size) = false := decide_eq_false (by omega)
    clear c3
    by_cases c4 : a1 < 0
    · rw [if_pos c4] at H
      have c4b0 : decide (a1 < 0) = true := decide_eq_true c4
      clear c4
      simp only [Option.some.injEq, Prod.mk.injEq] at H
      obtain ⟨rfl, rfl⟩ := H
      go_enter Try.func17, Try.ntmps17
      go_wp2
      go_ret2
      exact ⟨by first | rfl | (simp; done) | (simp [*]; done), by repeat (first | exact Drawn0.refl _ | apply Drawn0.step)⟩
    · rw [if_neg c4] at H
      have c4b0 : decide (a1 < 0) = false := decide_eq_false c4
      clear c4
      by_cases c5 : a1 > 4096
      · rw [if_pos c5] at H
        have c5b0 : decide (4096 < a1) = true := decide_eq_true c5
        clear c5
        simp only [Option.some.injEq, Prod.mk.injEq] at H
        obtain ⟨rfl, rfl⟩ := H
        go_enter Try.func17, Try.ntmps17
        go_wp2
        go_ret2
        exact ⟨by first | rfl | (simp; done) | (simp [*]; done), by repeat (first | exact Drawn0.refl _ | apply Drawn0.step)⟩
      · rw [if_neg c5] at H
        have c5b0 : decide (4096 < a1) = false := decide_eq_false c5
        clear c5
        replace H := Option.bind_eq_some_iff.mp H
        obtain ⟨t108, A60, H⟩ := H
        replace H : (if 0 ≤ a1 then (if a1 ≤ (t108.size : Int) then (some (t108.extract 0 (a1 : Int).toNat, 0)) else (none)) else (none)) = some (r1, r2) := H
        have A6 := Aside0.mk A60
        clear A60
        by_cases c7 : 0 ≤ a1
        · rw [if_pos c7] at H
          have c7b0 := eq_true c7
          have c7b1 : decide (0 ≤ a1) = true := decide_eq_true c7
          clear c7
          by_cases c8 : a1 ≤ (t108.size : Int)
          · rw [if_pos c8] at H
            have c8b0 := eq_true c8
            have c8b1 : decide (a1 ≤ (t108.size : Int)) = true := decide_eq_true c8
            clear c8
            simp only [Option.some.injEq, Prod.mk.injEq] at H
            obtain ⟨rfl, rfl⟩ := H
            go_enter Try.func17, Try.ntmps17
            go_wp2_with (first | ((with_reducible refine gate_callee (f := 27) rfl ?_); refine goesL_ (some 15) rfl rfl Try.func27 (by kernel_rfl) rfl #[.string a0, .int .i64 a1] rfl (by (try simp only [List.map_toArray, List.map_cons, List.map_nil]); first | done | rfl | (simp only [List.length_drop, List.length_take]; rfl)) ?_; (with_reducible refine (aquiferref15_noughts.calls k a0 a1 t108 _ A6.out).mono ?_); rintro e w' ⟨rfl, ⟨nd, rfl⟩⟩; refine ⟨_, rfl, ?_⟩))
            go_ret2
            exact ⟨by first | rfl | (simp; done) | (simp [*]; done), by repeat (first | exact Drawn0.refl _ | apply Drawn0.step)⟩
          · rw [if_neg c8] at H
            exact absurd H (by simp)
        · rw [if_neg c7] at H
          exact absurd H (by simp)

end Go.Proofs.Ytealmnllljoolaa.PChunkWrites
