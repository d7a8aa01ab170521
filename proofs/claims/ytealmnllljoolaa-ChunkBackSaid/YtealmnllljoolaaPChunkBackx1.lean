/- Functions that the law reaches, each as a Lean function with the proof that the Go code comes to its answers; laid by wip/hook.py, a program of this session, over the print of the kit. -/
import Derived.Test.YtealmnllljoolaaPChunkBackx0
namespace Go.Proofs.Ytealmnllljoolaa.PChunkBack
open Go.RowKit Go.Proofs.YtealmnllljoolaaW.PrintWords Go.Proofs.YtealmnllljoolaaW.PrintLast Go.Proofs.YtealmnllljoolaaW.PrintMore
attribute [local go_sem] max2_int min2_int max_two min_two max_three min_three max_four min_four   -- for this text's walks alone
set_option linter.unusedVariables false
set_option linter.unusedSimpArgs false

/-! ### chunk_Write: function 9 -/
/-- What Write writes. -/
def chunk_Write.row (a0 : ByteArray) (off : Nat) (a2 : ByteArray) : List Int :=
  Copy.over (Copy.over (List.replicate (if a0.size < off + a2.size then off + a2.size else a0.size) 0) 0 (bytesOf a0)) off (bytesOf a2)
def chunk_Write.f (a0 : ByteArray) (a1 : Int) (a2 : ByteArray) : Option (ByteArray × Int) :=
  if (a0.size : Int) > 4096 then (some ((⟨#[]⟩ : ByteArray), 3)) else (if a1 < 0 then (some ((⟨#[]⟩ : ByteArray), 2)) else (if a1 > 4096 then (some ((⟨#[]⟩ : ByteArray), 3)) else (if (a2.size : Int) > 4096 - a1 then (some ((⟨#[]⟩ : ByteArray), 3)) else (some (strOfNums (chunk_Write.row a0 a1.toNat a2), 0)))))
set_option maxHeartbeats 1000000 in
theorem chunk_Write.calls (a0 : ByteArray) (a1 : Int) (a2 : ByteArray) (r1 : ByteArray) (r2 : Int) (w : World) (h : chunk_Write.f a0 a1 a2 = some (r1, r2)) :
    Calls Try.prog 9 #[.string a0, .int .i64 a1, .string a2] w fun e w' => e = .returned (.tuple #[.string r1, .int .i64 r2]) ∧ Below w.heap.size w w' := by
  unfold chunk_Write.f at h
  by_cases c1 : (a0.size : Int) > 4096
  · rw [if_pos c1] at h
    simp only [Option.some.injEq, Prod.mk.injEq] at h
    obtain ⟨rfl, rfl⟩ := h
    have c1b : decide (4096 < a0.size) = true := decide_eq_true (by omega)
    go_enter Try.func9, Try.ntmps9
    go_wp2
    go_ret2
    exact ⟨rfl, Below.refl _ _⟩
  rw [if_neg c1] at h
  have c1b : decide (4096 < a0.size) = false := decide_eq_false (by omega)
  by_cases c2 : a1 < 0
  · rw [if_pos c2] at h
    simp only [Option.some.injEq, Prod.mk.injEq] at h
    obtain ⟨rfl, rfl⟩ := h
    go_enter Try.func9, Try.ntmps9
    go_wp2
    go_ret2
    exact ⟨rfl, Below.refl _ _⟩
  rw [if_neg c2] at h
  by_cases c3 : a1 > 4096
  · rw [if_pos c3] at h
    simp only [Option.some.injEq, Prod.mk.injEq] at h
    obtain ⟨rfl, rfl⟩ := h
    go_enter Try.func9, Try.ntmps9
    go_wp2
    go_ret2
    exact ⟨rfl, Below.refl _ _⟩
  rw [if_neg c3] at h
  obtain ⟨off, rfl⟩ := Int.eq_ofNat_of_zero_le (show 0 ≤ a1 by omega)
  by_cases c4 : (a2.size : Int) > 4096 - (off : Int)
  · rw [if_pos c4] at h
    simp only [Option.some.injEq, Prod.mk.injEq] at h
    obtain ⟨rfl, rfl⟩ := h
    go_enter Try.func9, Try.ntmps9
    go_wp2
    go_ret2
    exact ⟨rfl, Below.refl _ _⟩
  rw [if_neg c4] at h
  simp only [Option.some.injEq, Prod.mk.injEq, Int.toNat_natCast] at h
  obtain ⟨rfl, rfl⟩ := h
  obtain ⟨m, hm⟩ : ∃ m : Nat, (if a0.size < off + a2.size then off + a2.size else a0.size) = m := ⟨_, rfl⟩
  have hmi : (if (a0.size : Int) < (off : Int) + (a2.size : Int) then (off : Int) + (a2.size : Int) else (a0.size : Int)) = (m : Int) := by split at hm <;> split <;> omega
  have hm1 : a0.size ≤ m := by split at hm <;> omega
  have hm2 : off + a2.size ≤ m := by split at hm <;> omega
  have hm3 : m ≤ 4096 := by split at hm <;> omega
  have hrow : Hid (strOfNums (chunk_Write.row a0 off a2) = strOfNums (Copy.over (Copy.over (List.replicate m 0) 0 ((bytesOf a0).take a0.size)) off ((bytesOf a2).take a2.size))) := by
    show _ = _
    unfold chunk_Write.row
    rw [hm, List.take_of_length_le (by rw [bytesOf_length]; omega), List.take_of_length_le (by rw [bytesOf_length]; omega)]
  clear hm
  have hmk := print_make (P := Try.prog) 32 5 .u8 1 Try.underlying32 info5 (by omega) m (by omega)
  obtain ⟨i5, hi5, hz5⟩ := Option.map_eq_some_iff.1 info5
  have hs5 : (Try.prog.info? 5).map (fun i => i.size) = some 1 := by rw [hi5]; simp only [Prod.mk.injEq] at hz5; simp [hz5.2.1]
  simp only [Prod.mk.injEq] at hz5
  obtain ⟨A, hA, hcut⟩ : ∃ A : Option Addr, (off < m → A = some ⟨w.heap.size, off, none⟩) ∧ ∀ W : World, (Instr.slice 32 (.slice (some ⟨w.heap.size, 0, none⟩) m m) (some (.int .i64 (off : Int))) none none).run Try.prog W = .ok (.slice A (m - off) (m - off)) W := by
    refine ⟨if m = off then some ⟨w.heap.size, 0, none⟩ else some ⟨w.heap.size, off, none⟩, fun h => by rw [if_neg (by omega)], fun W => ?_⟩
    have hel : Try.prog.elem 32 = 5 := by simp [Program.elem, Try.underlying32]
    have hu : Try.prog.underlying 32 = some (.slice (Try.prog.elem 32)) := by rw [hel]; exact Try.underlying32
    rw [run_slice_l W 32 _ m m hu .i64 (off : Int) (Int.natCast_nonneg _) (by omega), hel]
    by_cases he : m = off
    · simp [sizeOf, typeInfo, hi5, hz5.2.1, sliced, Result.andThen, he]
    · simp [sizeOf, typeInfo, hi5, hz5.2.1, sliced, Result.andThen, he, Addr.add]
      by_cases h0 : off = 0 <;> simp [h0]
  have HA := Aside0.mk hA
  clear hA
  clear hi5
  go_enter Try.func9, Try.ntmps9
  go_wp2_with (first
    | (with_reducible refine Copy.copy_str (w0 := w) w.heap.size rfl (.tmp 34) (.tmp 35) 32 9 5 rfl Try.underlying32 hs5 w.heap.size m m (List.replicate m 0) 0 _ m m rfl a0 rfl a0.size (Nat.min_eq_left hm1) (fun _ => rfl) (by omega) (own_made w w.heap.size 5 .u8 m (Nat.le_refl _) (by omega)) ((Below.refl _ _).alloc (Nat.le_refl _) _) ?_; intro w1 HO1 HB1 hz1)
    | (with_reducible refine Copy.copy_str (w0 := w) w.heap.size rfl (.tmp 39) (.tmp 40) 32 9 5 rfl Try.underlying32 hs5 w.heap.size m m _ off A (m - off) (m - off) rfl a2 rfl a2.size (Nat.min_eq_left (by omega)) (fun h => HA.out (by omega)) (by omega) HO1 HB1 ?_; intro w2 HO2 HB2 hz2; have kst := own_string (P := Try.prog) Try.underlying32 Try.underlying5 Try.underlying9 HO2))
  go_ret2
  exact ⟨by rw [hrow.out]; rfl, HB2⟩


/-! ### chunk_Count: function 13 -/
def chunk_Count.f (a0 : Int) : Option (Int) := if a0 < 1 then (some 0) else (some (wrap64 ((wrap64 (Int.tdiv (wrap64 (a0 - 1)) 64)) + 1)))
set_option maxHeartbeats 8000000 in
set_option maxRecDepth 100000 in
theorem chunk_Count.calls (a0 : Int) (r : Int) (w : World) (h : chunk_Count.f a0 = some r) :
    Calls Try.prog 13 #[.int .i64 a0] w fun e w' => e = .returned (.int .i64 r) ∧ Drawn0 w w' := by
  have H : (if a0 < 1 then (some 0) else (some (wrap64 ((wrap64 (Int.tdiv (wrap64 (a0 - 1)) 64)) + 1)))) = some r := h
  clear h
  by_cases c2 : a0 < 1
  · rw [if_pos c2] at H
    have c2b0 : decide (a0 < 1) = true := decide_eq_true c2
    clear c2
    obtain rfl := Option.some.inj H
    go_enter Try.func13, Try.ntmps13
    go_wp2
    go_ret
    exact ⟨by first | rfl | (simp; done) | (simp [*]; done), by repeat (first | exact Drawn0.refl _ | apply Drawn0.step)⟩
  · rw [if_neg c2] at H
    have c2b0 : decide (a0 < 1) = false := decide_eq_false c2
    clear c2
    obtain rfl := Option.some.inj H
    go_enter Try.func13, Try.ntmps13
    go_wp2
    go_ret
    exact ⟨by first | rfl | (simp; done) | (simp [*]; done), by repeat (first | exact Drawn0.refl _ | apply Drawn0.step)⟩

/-! ### chunk_Bounds: function 19 -/
def chunk_Bounds.f (a0 : Int) (a1 : Int) : Option (Int × Int) := if a0 > 4096 then (some (0, 0)) else (if a1 < 0 then (some (0, 0)) else ((chunk_Count.f a0).bind fun t101 => (if a1 ≥ t101 then (some (0, 0)) else (some (wrap64 (a1 * 64), mn (wrap64 ((wrap64 (a1 * 64)) + 64)) a0)))))
set_option maxHeartbeats 8000000 in
set_option maxRecDepth 100000 in
theorem chunk_Bounds.calls (a0 : Int) (a1 : Int) (r1 : Int) (r2 : Int) (w : World) (h : chunk_Bounds.f a0 a1 = some (r1, r2)) :
    Calls Try.prog 19 #[.int .i64 a0, .int .i64 a1] w fun e w' => e = .returned (.tuple #[.int .i64 r1, .int .i64 r2]) ∧ Below w.heap.size w w' := by
  have HB := Aside0.mk (Below.refl w.heap.size w)
  have H : (if a0 > 4096 then (some (0, 0)) else (if a1 < 0 then (some (0, 0)) else ((chunk_Count.f a0).bind fun t101 => (if a1 ≥ t101 then (some (0, 0)) else (some (wrap64 (a1 * 64), mn (wrap64 ((wrap64 (a1 * 64)) + 64)) a0)))))) = some (r1, r2) := h
  clear h
  by_cases c3 : a0 > 4096
  · rw [if_pos c3] at H
    have c3b0 : decide (4096 < a0) = true := decide_eq_true c3
    clear c3
    simp only [Option.some.injEq, Prod.mk.injEq] at H
    obtain ⟨rfl, rfl⟩ := H
    go_enter Try.func19, Try.ntmps19
    go_wp2
    go_ret2
    exact ⟨by first | rfl | (simp [errW_none, errW_some] <;> rfl) | (simp [*, errW_none, errW_some] <;> rfl), by repeat (first | (with_reducible first | exact HB.out | apply below_alloc | apply pw_below_drewN | apply below_drew1) | exact HB.out)⟩
  · rw [if_neg c3] at H
    have c3b0 : decide (4096 < a0) = false := decide_eq_false c3
    clear c3
    by_cases c4 : a1 < 0
    · rw [if_pos c4] at H
      have c4b0 : decide (a1 < 0) = true := decide_eq_true c4
      clear c4
      simp only [Option.some.injEq, Prod.mk.injEq] at H
      obtain ⟨rfl, rfl⟩ := H
      go_enter Try.func19, Try.ntmps19
      go_wp2
      go_ret2
      exact ⟨by first | rfl | (simp [errW_none, errW_some] <;> rfl) | (simp [*, errW_none, errW_some] <;> rfl), by repeat (first | (with_reducible first | exact HB.out | apply below_alloc | apply pw_below_drewN | apply below_drew1) | exact HB.out)⟩
    · rw [if_neg c4] at H
      have c4b0 : decide (a1 < 0) = false := decide_eq_false c4
      clear c4
      replace H := Option.bind_eq_some_iff.mp H
      obtain ⟨t101, A50, H⟩ := H
      replace H : (if a1 ≥ t101 then (some (0, 0)) else (some (wrap64 (a1 * 64), mn (wrap64 ((wrap64 (a1 * 64)) + 64)) a0))) = some (r1, r2) := H
      have A5 := Aside0.mk A50
      clear A50
      by_cases c6 : a1 ≥ t101
      · rw [if_pos c6] at H
        have c6b0 : decide (t101 ≤ a1) = true := decide_eq_true c6
        clear c6
        simp only [Option.some.injEq, Prod.mk.injEq] at H
        obtain ⟨rfl, rfl⟩ := H
        go_enter Try.func19, Try.ntmps19
        go_wp2_with (first | (go_at_call 13; (with_reducible refine (chunk_Count.calls a0 t101 _ A5.out).mono ?_); rintro e w' ⟨rfl, ⟨nd, rfl⟩⟩))
        go_ret2
        exact ⟨by first | rfl | (simp [errW_none, errW_some] <;> rfl) | (simp [*, errW_none, errW_some] <;> rfl), by repeat (first | (with_reducible first | exact HB.out | apply below_alloc | apply pw_below_drewN | apply below_drew1) | exact HB.out)⟩
      · rw [if_neg c6] at H
        have c6b0 : decide (t101 ≤ a1) = false := decide_eq_false c6
        clear c6
        obtain ⟨ji7, hji7⟩ : ∃ j_ : Int, (mn (wrap64 ((wrap64 (a1 * 64)) + 64)) a0) = j_ := ⟨_, rfl⟩
        replace H : (some (wrap64 (a1 * 64), ji7)) = some (r1, r2) := by first | (rw [hji7] at H; exact H) | (simp only [hji7] at H ⊢; exact H)
        (try rw [hji7] at A5)
        have hji7_ : (if a0 < (wrap64 ((wrap64 (a1 * 64)) + 64)) then a0 else (wrap64 ((wrap64 (a1 * 64)) + 64))) = ji7 := hji7
        (try (have hji7n_ := hji7_; simp only [Int.ofNat_lt] at hji7n_))
        simp only [Option.some.injEq, Prod.mk.injEq] at H
        obtain ⟨rfl, rfl⟩ := H
        go_enter Try.func19, Try.ntmps19
        go_wp2_with (first | (go_at_call 13; (with_reducible refine (chunk_Count.calls a0 t101 _ A5.out).mono ?_); rintro e w' ⟨rfl, ⟨nd, rfl⟩⟩))
        go_ret2
        exact ⟨by first | rfl | (simp [errW_none, errW_some] <;> rfl) | (simp only [← hji7]; first | rfl | (simp [errW_none, errW_some] <;> rfl)) | (simp [*, errW_none, errW_some] <;> rfl), by repeat (first | (with_reducible first | exact HB.out | apply below_alloc | apply pw_below_drewN | apply below_drew1) | exact HB.out)⟩

/-! ### aquiferlaw15_works: function 10 -/
def aquiferlaw15_works.f  : Option (Bool) := (chunk_Bounds.f 100 1).bind fun bt102 => ((chunk_Write.f (⟨#[97, 98]⟩ : ByteArray) 3 (⟨#[120]⟩ : ByteArray)).bind fun bt104 => ((chunk_Count.f 64).bind fun t106 => (if t106 = 1 then ((chunk_Count.f 65).bind fun t107 => (if t107 = 2 then (if bt102.1 = 64 then (if bt102.2 = 100 then (if bt104.1.toList = ([97, 98, 0, 120] : List UInt8) then (some (bt104.2 == 0)) else (some false)) else (some false)) else (some false)) else (some false))) else (some false))))
set_option maxHeartbeats 8000000 in
set_option maxRecDepth 100000 in
theorem aquiferlaw15_works.calls  (r : Bool) (w : World) (h : aquiferlaw15_works.f  = some r) :
    Calls Try.prog 10 #[] w fun e w' => e = .returned (.bool r) ∧ Below w.heap.size w w' := by
  have HB := Aside0.mk (Below.refl w.heap.size w)
  have H : ((chunk_Bounds.f 100 1).bind fun bt102 => ((chunk_Write.f (⟨#[97, 98]⟩ : ByteArray) 3 (⟨#[120]⟩ : ByteArray)).bind fun bt104 => ((chunk_Count.f 64).bind fun t106 => (if t106 = 1 then ((chunk_Count.f 65).bind fun t107 => (if t107 = 2 then (if bt102.1 = 64 then (if bt102.2 = 100 then (if bt104.1.toList = ([97, 98, 0, 120] : List UInt8) then (some (bt104.2 == 0)) else (some false)) else (some false)) else (some false)) else (some false))) else (some false))))) = some r := h
  clear h
  replace H := Option.bind_eq_some_iff.mp H
  obtain ⟨⟨t102, t103⟩, A10, H⟩ := H
  replace H : ((chunk_Write.f (⟨#[97, 98]⟩ : ByteArray) 3 (⟨#[120]⟩ : ByteArray)).bind fun bt104 => ((chunk_Count.f 64).bind fun t106 => (if t106 = 1 then ((chunk_Count.f 65).bind fun t107 => (if t107 = 2 then (if t102 = 64 then (if t103 = 100 then (if bt104.1.toList = ([97, 98, 0, 120] : List UInt8) then (some (bt104.2 == 0)) else (some false)) else (some false)) else (some false)) else (some false))) else (some false)))) = some r := H
  have A1 := Aside0.mk A10
  clear A10
  replace H := Option.bind_eq_some_iff.mp H
  obtain ⟨⟨t104, t105⟩, A20, H⟩ := H
  replace H : ((chunk_Count.f 64).bind fun t106 => (if t106 = 1 then ((chunk_Count.f 65).bind fun t107 => (if t107 = 2 then (if t102 = 64 then (if t103 = 100 then (if t104.toList = ([97, 98, 0, 120] : List UInt8) then (some (t105 == 0)) else (some false)) else (some false)) else (some false)) else (some false))) else (some false))) = some r := H
  have A2 := Aside0.mk A20
  clear A20
  replace H := Option.bind_eq_some_iff.mp H
  obtain ⟨t106, A30, H⟩ := H
  replace H : (if t106 = 1 then ((chunk_Count.f 65).bind fun t107 => (if t107 = 2 then (if t102 = 64 then (if t103 = 100 then (if t104.toList = ([97, 98, 0, 120] : List UInt8) then (some (t105 == 0)) else (some false)) else (some false)) else (some false)) else (some false))) else (some false)) = some r := H
  have A3 := Aside0.mk A30
  clear A30
  by_cases c4 : t106 = 1
  · rw [if_pos c4] at H
    have c4b0 : (t106 == 1) = true := beq_iff_eq.mpr c4
    have c4b1 : (t106 != 1) = false := bne_eq_false_iff_eq.mpr c4
    clear c4
    replace H := Option.bind_eq_some_iff.mp H
    obtain ⟨t107, A50, H⟩ := H
    replace H : (if t107 = 2 then (if t102 = 64 then (if t103 = 100 then (if t104.toList = ([97, 98, 0, 120] : List UInt8) then (some (t105 == 0)) else (some false)) else (some false)) else (some false)) else (some false)) = some r := H
    have A5 := Aside0.mk A50
    clear A50
    by_cases c6 : t107 = 2
    · rw [if_pos c6] at H
      have c6b0 : (t107 == 2) = true := beq_iff_eq.mpr c6
      have c6b1 : (t107 != 2) = false := bne_eq_false_iff_eq.mpr c6
      clear c6
      by_cases c7 : t102 = 64
      · rw [if_pos c7] at H
        have c7b0 : (t102 == 64) = true := beq_iff_eq.mpr c7
        have c7b1 : (t102 != 64) = false := bne_eq_false_iff_eq.mpr c7
        clear c7
        by_cases c8 : t103 = 100
        · rw [if_pos c8] at H
          have c8b0 : (t103 == 100) = true := beq_iff_eq.mpr c8
          have c8b1 : (t103 != 100) = false := bne_eq_false_iff_eq.mpr c8
          clear c8
          by_cases c9 : t104.toList = ([97, 98, 0, 120] : List UInt8)
          · rw [if_pos c9] at H
            have c9b0 : (t104.toList == ([97, 98, 0, 120] : List UInt8)) = true := beq_iff_eq.mpr c9
            have c9b1 : (t104.toList != ([97, 98, 0, 120] : List UInt8)) = false := bne_eq_false_iff_eq.mpr c9
            clear c9
            obtain rfl := Option.some.inj H
            go_enter Try.func10, Try.ntmps10
            go_wp2_with (first | ((with_reducible refine gate_callee (f := 19) rfl ?_); refine goesL_ (some 6) rfl rfl Try.func19 (by kernel_rfl) rfl #[.int .i64 100, .int .i64 1] rfl (by (try simp only [List.map_toArray, List.map_cons, List.map_nil]); first | done | rfl | (simp only [List.length_drop, List.length_take]; rfl)) ?_; (with_reducible refine (chunk_Bounds.calls 100 1 t102 t103 _ A1.out).mono ?_); rintro e w10 ⟨rfl, hb⟩; refine ⟨_, rfl, ?_⟩; have n0_ := Aside0.mk (below_step (by repeat (first | (with_reducible first | exact HB.out | apply below_alloc | apply pw_below_drewN | apply below_drew1) | exact HB.out)) hb); clear HB; have HB := n0_; clear n0_; (try clear hb); (try clear hb2); (try clear hk); (try clear hi)) | ((with_reducible refine gate_callee (f := 9) rfl ?_); refine goesL_ (some 10) rfl rfl Try.func9 (by kernel_rfl) rfl #[.string (⟨#[97, 98]⟩ : ByteArray), .int .i64 3, .string (⟨#[120]⟩ : ByteArray)] rfl (by (try simp only [List.map_toArray, List.map_cons, List.map_nil]); first | done | rfl | (simp only [List.length_drop, List.length_take]; rfl)) ?_; (with_reducible refine (chunk_Write.calls (⟨#[97, 98]⟩ : ByteArray) 3 (⟨#[120]⟩ : ByteArray) t104 t105 _ A2.out).mono ?_); rintro e w11 ⟨rfl, hb⟩; refine ⟨_, rfl, ?_⟩; have n0_ := Aside0.mk (below_step (by repeat (first | (with_reducible first | exact HB.out | apply below_alloc | apply pw_below_drewN | apply below_drew1) | exact HB.out)) hb); clear HB; have HB := n0_; clear n0_; (try clear hb); (try clear hb2); (try clear hk); (try clear hi)) | ((with_reducible refine gate_callee (f := 13) rfl ?_); refine goesL_ (some 13) rfl rfl Try.func13 (by kernel_rfl) rfl #[.int .i64 64] rfl (by (try simp only [List.map_toArray, List.map_cons, List.map_nil]); first | done | rfl | (simp only [List.length_drop, List.length_take]; rfl)) ?_; (with_reducible refine (chunk_Count.calls 64 t106 _ A3.out).mono ?_); rintro e w' ⟨rfl, ⟨nd, rfl⟩⟩; refine ⟨_, rfl, ?_⟩) | (go_at_call 13; (with_reducible refine (chunk_Count.calls 65 t107 _ A5.out).mono ?_); rintro e w' ⟨rfl, ⟨nd, rfl⟩⟩))
            go_ret
            exact ⟨by first | rfl | (simp [errW_none, errW_some] <;> rfl) | (simp [*, errW_none, errW_some] <;> rfl), by repeat (first | (with_reducible first | exact HB.out | apply below_alloc | apply pw_below_drewN | apply below_drew1) | exact HB.out)⟩
          · rw [if_neg c9] at H
            have c9b0 : (t104.toList == ([97, 98, 0, 120] : List UInt8)) = false := beq_eq_false_iff_ne.mpr c9
            have c9b1 : (t104.toList != ([97, 98, 0, 120] : List UInt8)) = true := bne_iff_ne.mpr c9
            obtain rfl := Option.some.inj H
            go_enter Try.func10, Try.ntmps10
            go_wp2_with (first | ((with_reducible refine gate_callee (f := 19) rfl ?_); refine goesL_ (some 6) rfl rfl Try.func19 (by kernel_rfl) rfl #[.int .i64 100, .int .i64 1] rfl (by (try simp only [List.map_toArray, List.map_cons, List.map_nil]); first | done | rfl | (simp only [List.length_drop, List.length_take]; rfl)) ?_; (with_reducible refine (chunk_Bounds.calls 100 1 t102 t103 _ A1.out).mono ?_); rintro e w12 ⟨rfl, hb⟩; refine ⟨_, rfl, ?_⟩; have n0_ := Aside0.mk (below_step (by repeat (first | (with_reducible first | exact HB.out | apply below_alloc | apply pw_below_drewN | apply below_drew1) | exact HB.out)) hb); clear HB; have HB := n0_; clear n0_; (try clear hb); (try clear hb2); (try clear hk); (try clear hi)) | ((with_reducible refine gate_callee (f := 9) rfl ?_); refine goesL_ (some 10) rfl rfl Try.func9 (by kernel_rfl) rfl #[.string (⟨#[97, 98]⟩ : ByteArray), .int .i64 3, .string (⟨#[120]⟩ : ByteArray)] rfl (by (try simp only [List.map_toArray, List.map_cons, List.map_nil]); first | done | rfl | (simp only [List.length_drop, List.length_take]; rfl)) ?_; (with_reducible refine (chunk_Write.calls (⟨#[97, 98]⟩ : ByteArray) 3 (⟨#[120]⟩ : ByteArray) t104 t105 _ A2.out).mono ?_); rintro e w13 ⟨rfl, hb⟩; refine ⟨_, rfl, ?_⟩; have n0_ := Aside0.mk (below_step (by repeat (first | (with_reducible first | exact HB.out | apply below_alloc | apply pw_below_drewN | apply below_drew1) | exact HB.out)) hb); clear HB; have HB := n0_; clear n0_; (try clear hb); (try clear hb2); (try clear hk); (try clear hi)) | ((with_reducible refine gate_callee (f := 13) rfl ?_); refine goesL_ (some 13) rfl rfl Try.func13 (by kernel_rfl) rfl #[.int .i64 64] rfl (by (try simp only [List.map_toArray, List.map_cons, List.map_nil]); first | done | rfl | (simp only [List.length_drop, List.length_take]; rfl)) ?_; (with_reducible refine (chunk_Count.calls 64 t106 _ A3.out).mono ?_); rintro e w' ⟨rfl, ⟨nd, rfl⟩⟩; refine ⟨_, rfl, ?_⟩) | (go_at_call 13; (with_reducible refine (chunk_Count.calls 65 t107 _ A5.out).mono ?_); rintro e w' ⟨rfl, ⟨nd, rfl⟩⟩))
            go_ret
            exact ⟨by first | rfl | (simp [errW_none, errW_some] <;> rfl) | (simp [*, errW_none, errW_some] <;> rfl), by repeat (first | (with_reducible first | exact HB.out | apply below_alloc | apply pw_below_drewN | apply below_drew1) | exact HB.out)⟩
        · rw [if_neg c8] at H
          have c8b0 : (t103 == 100) = false := beq_eq_false_iff_ne.mpr c8
          have c8b1 : (t103 != 100) = true := bne_iff_ne.mpr c8
          obtain rfl := Option.some.inj H
          go_enter Try.func10, Try.ntmps10
          go_wp2_with (first | ((with_reducible refine gate_callee (f := 19) rfl ?_); refine goesL_ (some 6) rfl rfl Try.func19 (by kernel_rfl) rfl #[.int .i64 100, .int .i64 1] rfl (by (try simp only [List.map_toArray, List.map_cons, List.map_nil]); first | done | rfl | (simp only [List.length_drop, List.length_take]; rfl)) ?_; (with_reducible refine (chunk_Bounds.calls 100 1 t102 t103 _ A1.out).mono ?_); rintro e w14 ⟨rfl, hb⟩; refine ⟨_, rfl, ?_⟩; have n0_ := Aside0.mk (below_step (by repeat (first | (with_reducible first | exact HB.out | apply below_alloc | apply pw_below_drewN | apply below_drew1) | exact HB.out)) hb); clear HB; have HB := n0_; clear n0_; (try clear hb); (try clear hb2); (try clear hk); (try clear hi)) | ((with_reducible refine gate_callee (f := 9) rfl ?_); refine goesL_ (some 10) rfl rfl Try.func9 (by kernel_rfl) rfl #[.string (⟨#[97, 98]⟩ : ByteArray), .int .i64 3, .string (⟨#[120]⟩ : ByteArray)] rfl (by (try simp only [List.map_toArray, List.map_cons, List.map_nil]); first | done | rfl | (simp only [List.length_drop, List.length_take]; rfl)) ?_; (with_reducible refine (chunk_Write.calls (⟨#[97, 98]⟩ : ByteArray) 3 (⟨#[120]⟩ : ByteArray) t104 t105 _ A2.out).mono ?_); rintro e w15 ⟨rfl, hb⟩; refine ⟨_, rfl, ?_⟩; have n0_ := Aside0.mk (below_step (by repeat (first | (with_reducible first | exact HB.out | apply below_alloc | apply pw_below_drewN | apply below_drew1) | exact HB.out)) hb); clear HB; have HB := n0_; clear n0_; (try clear hb); (try clear hb2); (try clear hk); (try clear hi)) | ((with_reducible refine gate_callee (f := 13) rfl ?_); refine goesL_ (some 13) rfl rfl Try.func13 (by kernel_rfl) rfl #[.int .i64 64] rfl (by (try simp only [List.map_toArray, List.map_cons, List.map_nil]); first | done | rfl | (simp only [List.length_drop, List.length_take]; rfl)) ?_; (with_reducible refine (chunk_Count.calls 64 t106 _ A3.out).mono ?_); rintro e w' ⟨rfl, ⟨nd, rfl⟩⟩; refine ⟨_, rfl, ?_⟩) | (go_at_call 13; (with_reducible refine (chunk_Count.calls 65 t107 _ A5.out).mono ?_); rintro e w' ⟨rfl, ⟨nd, rfl⟩⟩))
          go_ret
          exact ⟨by first | rfl | (simp [errW_none, errW_some] <;> rfl) | (simp [*, errW_none, errW_some] <;> rfl), by repeat (first | (with_reducible first | exact HB.out | apply below_alloc | apply pw_below_drewN | apply below_drew1) | exact HB.out)⟩
      · rw [if_neg c7] at H
        have c7b0 : (t102 == 64) = false := beq_eq_false_iff_ne.mpr c7
        have c7b1 : (t102 != 64) = true := bne_iff_ne.mpr c7
        obtain rfl := Option.some.inj H
        go_enter Try.func10, Try.ntmps10
        go_wp2_with (first | ((with_reducible refine gate_callee (f := 19) rfl ?_); refine goesL_ (some 6) rfl rfl Try.func19 (by kernel_rfl) rfl #[.int .i64 100, .int .i64 1] rfl (by (try simp only [List.map_toArray, List.map_cons, List.map_nil]); first | done | rfl | (simp only [List.length_drop, List.length_take]; rfl)) ?_; (with_reducible refine (chunk_Bounds.calls 100 1 t102 t103 _ A1.out).mono ?_); rintro e w16 ⟨rfl, hb⟩; refine ⟨_, rfl, ?_⟩; have n0_ := Aside0.mk (below_step (by repeat (first | (with_reducible first | exact HB.out | apply below_alloc | apply pw_below_drewN | apply below_drew1) | exact HB.out)) hb); clear HB; have HB := n0_; clear n0_; (try clear hb); (try clear hb2); (try clear hk); (try clear hi)) | ((with_reducible refine gate_callee (f := 9) rfl ?_); refine goesL_ (some 10) rfl rfl Try.func9 (by kernel_rfl) rfl #[.string (⟨#[97, 98]⟩ : ByteArray), .int .i64 3, .string (⟨#[120]⟩ : ByteArray)] rfl (by (try simp only [List.map_toArray, List.map_cons, List.map_nil]); first | done | rfl | (simp only [List.length_drop, List.length_take]; rfl)) ?_; (with_reducible refine (chunk_Write.calls (⟨#[97, 98]⟩ : ByteArray) 3 (⟨#[120]⟩ : ByteArray) t104 t105 _ A2.out).mono ?_); rintro e w17 ⟨rfl, hb⟩; refine ⟨_, rfl, ?_⟩; have n0_ := Aside0.mk (below_step (by repeat (first | (with_reducible first | exact HB.out | apply below_alloc | apply pw_below_drewN | apply below_drew1) | exact HB.out)) hb); clear HB; have HB := n0_; clear n0_; (try clear hb); (try clear hb2); (try clear hk); (try clear hi)) | ((with_reducible refine gate_callee (f := 13) rfl ?_); refine goesL_ (some 13) rfl rfl Try.func13 (by kernel_rfl) rfl #[.int .i64 64] rfl (by (try simp only [List.map_toArray, List.map_cons, List.map_nil]); first | done | rfl | (simp only [List.length_drop, List.length_take]; rfl)) ?_; (with_reducible refine (chunk_Count.calls 64 t106 _ A3.out).mono ?_); rintro e w' ⟨rfl, ⟨nd, rfl⟩⟩; refine ⟨_, rfl, ?_⟩) | (go_at_call 13; (with_reducible refine (chunk_Count.calls 65 t107 _ A5.out).mono ?_); rintro e w' ⟨rfl, ⟨nd, rfl⟩⟩))
        go_ret
        exact ⟨by first | rfl | (simp [errW_none, errW_some] <;> rfl) | (simp [*, errW_none, errW_some] <;> rfl), by repeat (first | (with_reducible first | exact HB.out | apply below_alloc | apply pw_below_drewN | apply below_drew1) | exact HB.out)⟩
    · rw [if_neg c6] at H
      have c6b0 : (t107 == 2) = false := beq_eq_false_iff_ne.mpr c6
      have c6b1 : (t107 != 2) = true := bne_iff_ne.mpr c6
      obtain rfl := Option.some.inj H
      go_enter Try.func10, Try.ntmps10
      go_wp2_with (first | ((with_reducible refine gate_callee (f := 19) rfl ?_); refine goesL_ (some 6) rfl rfl Try.func19 (by kernel_rfl) rfl #[.int .i64 100, .int .i64 1] rfl (by (try simp only [List.map_toArray, List.map_cons, List.map_nil]); first | done | rfl | (simp only [List.length_drop, List.length_take]; rfl)) ?_; (with_reducible refine (chunk_Bounds.calls 100 1 t102 t103 _ A1.out).mono ?_); rintro e w18 ⟨rfl, hb⟩; refine ⟨_, rfl, ?_⟩; have n0_ := Aside0.mk (below_step (by repeat (first | (with_reducible first | exact HB.out | apply below_alloc | apply pw_below_drewN | apply below_drew1) | exact HB.out)) hb); clear HB; have HB := n0_; clear n0_; (try clear hb); (try clear hb2); (try clear hk); (try clear hi)) | ((with_reducible refine gate_callee (f := 9) rfl ?_); refine goesL_ (some 10) rfl rfl Try.func9 (by kernel_rfl) rfl #[.string (⟨#[97, 98]⟩ : ByteArray), .int .i64 3, .string (⟨#[120]⟩ : ByteArray)] rfl (by (try simp only [List.map_toArray, List.map_cons, List.map_nil]); first | done | rfl | (simp only [List.length_drop, List.length_take]; rfl)) ?_; (with_reducible refine (chunk_Write.calls (⟨#[97, 98]⟩ : ByteArray) 3 (⟨#[120]⟩ : ByteArray) t104 t105 _ A2.out).mono ?_); rintro e w19 ⟨rfl, hb⟩; refine ⟨_, rfl, ?_⟩; have n0_ := Aside0.mk (below_step (by repeat (first | (with_reducible first | exact HB.out | apply below_alloc | apply pw_below_drewN | apply below_drew1) | exact HB.out)) hb); clear HB; have HB := n0_; clear n0_; (try clear hb); (try clear hb2); (try clear hk); (try clear hi)) | ((with_reducible refine gate_callee (f := 13) rfl ?_); refine goesL_ (some 13) rfl rfl Try.func13 (by kernel_rfl) rfl #[.int .i64 64] rfl (by (try simp only [List.map_toArray, List.map_cons, List.map_nil]); first | done | rfl | (simp only [List.length_drop, List.length_take]; rfl)) ?_; (with_reducible refine (chunk_Count.calls 64 t106 _ A3.out).mono ?_); rintro e w' ⟨rfl, ⟨nd, rfl⟩⟩; refine ⟨_, rfl, ?_⟩) | (go_at_call 13; (with_reducible refine (chunk_Count.calls 65 t107 _ A5.out).mono ?_); rintro e w' ⟨rfl, ⟨nd, rfl⟩⟩))
      go_ret
      exact ⟨by first | rfl | (simp [errW_none, errW_some] <;> rfl) | (simp [*, errW_none, errW_some] <;> rfl), by repeat (first | (with_reducible first | exact HB.out | apply below_alloc | apply pw_below_drewN | apply below_drew1) | exact HB.out)⟩
  · rw [if_neg c4] at H
    have c4b0 : (t106 == 1) = false := beq_eq_false_iff_ne.mpr c4
    have c4b1 : (t106 != 1) = true := bne_iff_ne.mpr c4
    obtain rfl := Option.some.inj H
    go_enter Try.func10, Try.ntmps10
    go_wp2_with (first | ((with_reducible refine gate_callee (f := 19) rfl ?_); refine goesL_ (some 6) rfl rfl Try.func19 (by kernel_rfl) rfl #[.int .i64 100, .int .i64 1] rfl (by (try simp only [List.map_toArray, List.map_cons, List.map_nil]); first | done | rfl | (simp only [List.length_drop, List.length_take]; rfl)) ?_; (with_reducible refine (chunk_Bounds.calls 100 1 t102 t103 _ A1.out).mono ?_); rintro e w20 ⟨rfl, hb⟩; refine ⟨_, rfl, ?_⟩; have n0_ := Aside0.mk (below_step (by repeat (first | (with_reducible first | exact HB.out | apply below_alloc | apply pw_below_drewN | apply below_drew1) | exact HB.out)) hb); clear HB; have HB := n0_; clear n0_; (try clear hb); (try clear hb2); (try clear hk); (try clear hi)) | ((with_reducible refine gate_callee (f := 9) rfl ?_); refine goesL_ (some 10) rfl rfl Try.func9 (by kernel_rfl) rfl #[.string (⟨#[97, 98]⟩ : ByteArray), .int .i64 3, .string (⟨#[120]⟩ : ByteArray)] rfl (by (try simp only [List.map_toArray, List.map_cons, List.map_nil]); first | done | rfl | (simp only [List.length_drop, List.length_take]; rfl)) ?_; (with_reducible refine (chunk_Write.calls (⟨#[97, 98]⟩ : ByteArray) 3 (⟨#[120]⟩ : ByteArray) t104 t105 _ A2.out).mono ?_); rintro e w21 ⟨rfl, hb⟩; refine ⟨_, rfl, ?_⟩; have n0_ := Aside0.mk (below_step (by repeat (first | (with_reducible first | exact HB.out | apply below_alloc | apply pw_below_drewN | apply below_drew1) | exact HB.out)) hb); clear HB; have HB := n0_; clear n0_; (try clear hb); (try clear hb2); (try clear hk); (try clear hi)) | ((with_reducible refine gate_callee (f := 13) rfl ?_); refine goesL_ (some 13) rfl rfl Try.func13 (by kernel_rfl) rfl #[.int .i64 64] rfl (by (try simp only [List.map_toArray, List.map_cons, List.map_nil]); first | done | rfl | (simp only [List.length_drop, List.length_take]; rfl)) ?_; (with_reducible refine (chunk_Count.calls 64 t106 _ A3.out).mono ?_); rintro e w' ⟨rfl, ⟨nd, rfl⟩⟩; refine ⟨_, rfl, ?_⟩))
    go_ret
    exact ⟨by first | rfl | (simp [errW_none, errW_some] <;> rfl) | (simp [*, errW_none, errW_some] <;> rfl), by repeat (first | (with_reducible first | exact HB.out | apply below_alloc | apply pw_below_drewN | apply below_drew1) | exact HB.out)⟩

/-! ### chunk_Join: function 21 -/
/-- Do the texts have the lengths that the bounds ask for? -/
def chunk_Join.fit (l : List ByteArray) (n : Nat) : Nat → Bool
  | 0 => true
  | j + 1 => chunk_Join.fit l n j && decide ((l.getD j ByteArray.empty).size = min 64 (n - 64 * j))
def chunk_Join.row (l : List ByteArray) (n : Nat) : Nat → List Int
  | 0 => List.replicate n 0
  | j + 1 => Copy.over (chunk_Join.row l n j) (64 * j) (bytesOf (l.getD j ByteArray.empty))
def chunk_Join.f (l0 : List ByteArray) (a1 : Int) : Option (ByteArray × Int) :=
  if a1 < 0 ∨ a1 > 4096 then some ((⟨#[]⟩ : ByteArray), 2) else (if l0.length ≠ (a1.toNat + 63) / 64 then some ((⟨#[]⟩ : ByteArray), 5) else (if chunk_Join.fit l0 a1.toNat l0.length = true then some (strOfNums (chunk_Join.row l0 a1.toNat l0.length), 0) else some ((⟨#[]⟩ : ByteArray), 5)))
theorem chunk_Join.row_length (l : List ByteArray) (n : Nat) : ∀ j, chunk_Join.fit l n j = true → 64 * j ≤ n + 63 → (chunk_Join.row l n j).length = n
  | 0, _, _ => by simp [chunk_Join.row]
  | j + 1, h, hj => by
    simp only [chunk_Join.fit, Bool.and_eq_true, decide_eq_true_eq] at h
    have ih := chunk_Join.row_length l n j h.1 (by omega)
    rw [chunk_Join.row, Copy.over_length (by rw [ih, bytesOf_length]; omega), ih]
theorem chunk_Join.fit_mono (l : List ByteArray) (n : Nat) (j : Nat) (h : chunk_Join.fit l n j = false) : ∀ m, j ≤ m → chunk_Join.fit l n m = false := by
  intro m hm
  induction m with
  | zero => obtain rfl : j = 0 := by omega
            exact h
  | succ m ih =>
    rcases Nat.eq_or_lt_of_le hm with rfl | hlt
    · exact h
    · rw [chunk_Join.fit, ih (by omega), Bool.false_and]
theorem chunk_Join.count (a1 : Nat) (h : a1 ≤ 4096) : chunk_Count.f (a1 : Int) = some (((a1 + 63) / 64 : Nat) : Int) := by
  unfold chunk_Count.f
  by_cases h0 : (a1 : Int) < 1
  · rw [if_pos h0]
    obtain rfl : a1 = 0 := by omega
    rfl
  · rw [if_neg h0]
    have e1 : wrap64 ((a1 : Int) - 1) = (a1 : Int) - 1 := by unfold wrap64; omega
    rw [e1, Int.tdiv_eq_ediv_of_nonneg (by omega)]
    have e2 : wrap64 (((a1 : Int) - 1) / 64) = ((a1 : Int) - 1) / 64 := by unfold wrap64; omega
    rw [e2]
    congr 1
    unfold wrap64
    omega
theorem chunk_Join.bounds (n j : Nat) (hn : n ≤ 4096) (hj : j < (n + 63) / 64) : chunk_Bounds.f (n : Int) (j : Int) = some (((64 * j : Nat) : Int), ((min (64 * j + 64) n : Nat) : Int)) := by
  unfold chunk_Bounds.f
  rw [if_neg (by omega), if_neg (by omega), chunk_Join.count n hn]
  simp only [Option.bind_some]
  rw [if_neg (by omega)]
  have e1 : wrap64 ((j : Int) * 64) = ((64 * j : Nat) : Int) := by unfold wrap64; omega
  rw [e1]
  have e2 : wrap64 (((64 * j : Nat) : Int) + 64) = ((64 * j + 64 : Nat) : Int) := by unfold wrap64; omega
  rw [e2]
  congr 2
  unfold mn
  split <;> omega
set_option maxHeartbeats 2000000 in
theorem chunk_Join.calls (A0 : Option Addr) (c0 : Nat) (l0 : List ByteArray) (a1 : Int) (r1 : ByteArray) (r2 : Int) (w : World) (hr0 : Kd.C Kd.string w A0 l0.length l0) (hc0 : l0.length ≤ c0) (h : chunk_Join.f l0 a1 = some (r1, r2)) :
    Calls Try.prog 21 #[.slice A0 l0.length c0, .int .i64 a1] w fun e w' => e = .returned (.tuple #[.string r1, .int .i64 r2]) ∧ Below w.heap.size w w' := by
  have HR0 := Aside0.mk hr0
  clear hr0
  unfold chunk_Join.f at h
  by_cases c1 : a1 < 0 ∨ a1 > 4096
  · rw [if_pos c1] at h
    simp only [Option.some.injEq, Prod.mk.injEq] at h
    obtain ⟨rfl, rfl⟩ := h
    rcases c1 with c1 | c1
    · go_enter Try.func21, Try.ntmps21
      go_wp2
      go_ret2
      exact ⟨rfl, Below.refl _ _⟩
    · go_enter Try.func21, Try.ntmps21
      go_wp2
      go_ret2
      exact ⟨rfl, Below.refl _ _⟩
  rw [if_neg c1] at h
  obtain ⟨n, rfl⟩ := Int.eq_ofNat_of_zero_le (show 0 ≤ a1 by omega)
  have c1a : (n : Int) ≤ 4096 := by omega
  clear c1
  simp only [Int.toNat_natCast] at h
  have hcn := Aside0.mk (chunk_Join.count n (by omega))
  obtain ⟨m, hm⟩ : ∃ m : Nat, (n + 63) / 64 = m := ⟨_, rfl⟩
  rw [hm] at h
  have hm64 : 64 * m ≤ n + 63 ∧ n ≤ 64 * m := by omega
  have HM := Aside0.mk hm
  rw [hm] at hcn
  clear hm
  by_cases c2 : l0.length ≠ m
  · rw [if_pos c2] at h
    simp only [Option.some.injEq, Prod.mk.injEq] at h
    obtain ⟨rfl, rfl⟩ := h
    have c2b : (!((l0.length : Int) == (m : Int))) = true := by simp; omega
    have c2c : ((l0.length : Int) != (m : Int)) = true := by simp; omega
    have c2d : ((l0.length : Int) == (m : Int)) = false := by simp; omega
    clear c2
    go_enter Try.func21, Try.ntmps21
    go_wp2_with (first | (go_at_call 13; (with_reducible refine (chunk_Count.calls n m _ hcn.out).mono ?_); rintro e w' ⟨rfl, ⟨nd, rfl⟩⟩))
    go_ret2
    exact ⟨rfl, by repeat (first | exact Below.refl _ _ | apply pw_below_drewN)⟩
  rw [if_neg c2] at h
  have c2' : l0.length = m := by omega
  have c2b : ((l0.length : Int) != (m : Int)) = false := by simp; omega
  have c2d : ((l0.length : Int) == (m : Int)) = true := by simp; omega
  have c2m := Aside0.mk c2'
  clear c2 c2'
  have HH := Aside0.mk h
  clear h
  have hmk := print_make (P := Try.prog) 32 5 .u8 1 Try.underlying32 info5 (by omega) n (by omega)
  obtain ⟨i5, hi5, hz5⟩ := Option.map_eq_some_iff.1 info5
  simp only [Prod.mk.injEq] at hz5
  have hs5 : (Try.prog.info? 5).map (fun i => i.size) = some 1 := by rw [hi5]; simp [hz5.2.1]
  have hi := Aside0.mk (And.intro hi5 hz5.2.1)
  clear hi5 hz5
  go_enter Try.func21, Try.ntmps21
  go_wp2_with (first | (go_at_call 13; (with_reducible refine (chunk_Count.calls n m _ hcn.out).mono ?_); rintro e w' ⟨rfl, ⟨nd, rfl⟩⟩))
  go_loopw [28] (fun v28 wr => ∃ j : Nat, v28 = .int .i64 j ∧ j ≤ l0.length ∧ Aside0 (chunk_Join.fit l0 n j = true) ∧ Aside0 (wr.ownsRow w.heap.size 5 1 (.slice (some ⟨w.heap.size, 0, none⟩) n n) n (nums .u8 (chunk_Join.row l0 n j))) ∧ Aside0 (Below w.heap.size w wr)) (fun v28 _ => l0.length - (intOf v28).toNat)
  case atStart => exact ⟨0, rfl, Nat.zero_le _, ⟨rfl⟩, ⟨own_made (w.drewN nd) w.heap.size 5 .u8 n (Nat.le_refl _) (by omega)⟩, ⟨(pw_below_drewN (Below.refl _ _) nd).alloc (Nat.le_refl _) _⟩⟩
  case round =>
    obtain ⟨j, rfl, hj, hF, hO, hB⟩ := hrel
    by_cases hlt : j < l0.length
    · have hM := HM.out
      have hcm := c2m.out
      have hbd := Aside0.mk (chunk_Join.bounds n j (by omega) (by omega))
      obtain ⟨lo, hlo⟩ : ∃ lo, 64 * j = lo := ⟨_, rfl⟩
      obtain ⟨hi', hhi⟩ : ∃ hi', min (lo + 64) n = hi' := ⟨_, rfl⟩
      rw [hlo, hhi] at hbd
      have hb1 : lo ≤ hi' := by omega
      have hb2 : hi' ≤ n := by omega
      have hb3 : lo < n := by omega
      have hfd : Aside0 (hi' - lo = min 64 (n - 64 * j)) := ⟨by omega⟩
      have hjs : j ≤ 5000 := by omega
      have HLO := Aside0.mk hlo
      clear hlo hhi hM hcm
      obtain ⟨ad, rfl, hcw⟩ := (Kd.reads_of_C (enc := Value.string) (d := ByteArray.empty) (h1 := fun _ => rfl) HR0.out).at_ (j : Int) (by omega) (by omega)
      have hcell := pw_cell_below hB.out hcw
      obtain ⟨s, hs⟩ : ∃ s, l0.getD j ByteArray.empty = s := ⟨_, rfl⟩
      have hrd : rdOf ByteArray.empty l0 (j : Int) = s := hs
      rw [Int.toNat_natCast, hrd] at hcell
      clear hcw hrd
      have HS := Aside0.mk hs
      clear hs
      by_cases hfit : s.size = hi' - lo
      · have t1 : (!((s.size : Int) == (hi' : Int) - (lo : Int))) = false := by simp; omega
        have t2 : ((s.size : Int) == (hi' : Int) - (lo : Int)) = true := by simp; omega
        have t3 : ((s.size : Int) != (hi' : Int) - (lo : Int)) = false := by simp; omega
        have HFit := Aside0.mk hfit
        clear hfit
        obtain ⟨A', hA', h48⟩ : ∃ A' : Option Addr, (lo < n → A' = some ⟨w.heap.size, lo, none⟩) ∧ ∀ W : World, (Instr.slice 32 (.slice (some ⟨w.heap.size, 0, none⟩) n n) (some (.int .i64 (lo : Int))) (some (.int .i64 (hi' : Int))) none).run Try.prog W = .ok (.slice A' (hi' - lo) (n - lo)) W := by
          refine ⟨some ⟨w.heap.size, lo, none⟩, fun _ => rfl, fun W => ?_⟩
          have hel : Try.prog.elem 32 = 5 := by simp [Program.elem, Try.underlying32]
          have hu : Try.prog.underlying 32 = some (.slice (Try.prog.elem 32)) := by rw [hel]; exact Try.underlying32
          have hne : ¬ n = lo := by omega
          rw [run_slice_lh W 32 _ n n hu .i64 .i64 (lo : Int) (hi' : Int) (by omega) (by omega) (by omega), hel]
          simp [sizeOf, typeInfo, hi.out.1, hi.out.2, sliced, Result.andThen, Addr.add, hne]
          by_cases h0 : lo = 0 <;> simp [h0]
        have HA := Aside0.mk hA'
        clear hA'
        go_wp2_with (first
          | (go_at_call 19; (with_reducible refine (chunk_Bounds.calls n j lo hi' _ hbd.out).mono ?_); rintro e w1 ⟨rfl, hb⟩; have HO1 := Aside0.mk (hO.out.kept (grown_of_below hb none) (by simp [Value.ownBlock])); have HB1 := Aside0.mk (below_then hB.out hB.out.size hb); have hcell1 := pw_cell_below hb hcell; clear hb)
          | (with_reducible refine Copy.copy_str (w0 := w) w.heap.size rfl (.tmp 48) (.tmp 49) 32 9 5 rfl Try.underlying32 hs5 w.heap.size n n _ lo A' (hi' - lo) (n - lo) rfl s rfl s.size ?c1 (fun _ => HA.out hb3) ?c2 HO1.out HB1.out ?_; (case c1 => have := HFit.out; exact Nat.min_eq_left (by omega)); (case c2 => have := HFit.out; omega); intro w2 HO2 HB2 hz2; have HO3 := Aside0.mk HO2; have HB3 := Aside0.mk HB2; clear HO2 HB2 hz2))
        go_roundw
        case rel =>
          refine ⟨j + 1, by go_num, by omega, ⟨?_⟩, ⟨?_⟩, HB3⟩
          · rw [chunk_Join.fit, hF.out, HS.out, Bool.true_and, decide_eq_true_eq, HFit.out]
            exact hfd.out
          · have := HO3.out
            rw [List.take_of_length_le (by rw [bytesOf_length]; omega), ← HLO.out, ← HS.out] at this
            exact this
        case measure => simp [intOf]; omega
      · have t1 : (!((s.size : Int) == (hi' : Int) - (lo : Int))) = true := by simp; omega
        have t2 : ((s.size : Int) == (hi' : Int) - (lo : Int)) = false := by simp; omega
        have t3 : ((s.size : Int) != (hi' : Int) - (lo : Int)) = true := by simp; omega
        have HFit := Aside0.mk hfit
        clear hfit
        go_wp2_with (first
          | (go_at_call 19; (with_reducible refine (chunk_Bounds.calls n j lo hi' _ hbd.out).mono ?_); rintro e w1 ⟨rfl, hb⟩; have HB1 := Aside0.mk (below_then hB.out hB.out.size hb); have hcell1 := pw_cell_below hb hcell; clear hb))
        go_ret2
        have hh := HH.out
        have hff : chunk_Join.fit l0 n l0.length = false := chunk_Join.fit_mono l0 n (j + 1) (by
          rw [chunk_Join.fit, HS.out, hF.out, Bool.true_and, decide_eq_false_iff_not, ← hfd.out]
          exact HFit.out) _ (by omega)
        rw [hff, if_neg (by simp)] at hh
        simp only [Option.some.injEq, Prod.mk.injEq] at hh
        obtain ⟨rfl, rfl⟩ := hh
        exact ⟨rfl, HB1.out⟩
    · obtain rfl : j = l0.length := by omega
      have kst := own_string (P := Try.prog) Try.underlying32 Try.underlying5 Try.underlying9 hO.out
      go_wp2
      go_ret2
      have hh := HH.out
      rw [if_pos hF.out] at hh
      simp only [Option.some.injEq, Prod.mk.injEq] at hh
      obtain ⟨rfl, rfl⟩ := hh
      exact ⟨rfl, hB.out⟩


/-! ### chunk_Split: function 24 -/
/-- The chunk of that number. -/
def chunk_Split.at_ (s : ByteArray) (i : Nat) : ByteArray := s.extract (64 * i) (64 * i + 64)
def chunk_Split.row (s : ByteArray) (n : Nat) : List ByteArray := (List.range n).map (chunk_Split.at_ s)
def chunk_Split.f (a0 : ByteArray) : Option (List ByteArray) := if a0.size ≤ 140737488351232 then some (chunk_Split.row a0 ((a0.size + 63) / 64)) else none
theorem chunk_Split.row_succ (s : ByteArray) (n : Nat) : chunk_Split.row s (n + 1) = chunk_Split.row s n ++ [chunk_Split.at_ s n] := by
  unfold chunk_Split.row; rw [List.range_succ, List.map_append]; rfl
theorem chunk_Split.row_length (s : ByteArray) (n : Nat) : (chunk_Split.row s n).length = n := by unfold chunk_Split.row; simp
theorem chunk_Split.piece (s : ByteArray) (j : Nat) : strOfNums (((bytesOf s).drop (64 * j)).take (min 64 (s.size - 64 * j))) = chunk_Split.at_ s j := by
  apply Copy.ba_ext
  rw [strOfNums_data, chunk_Split.at_, Copy.extract_list, List.map_take, List.map_drop, Copy.back_bytes, show 64 * j + 64 - 64 * j = 64 by omega]
  rcases Nat.le_total 64 (s.size - 64 * j) with h | h
  · rw [Nat.min_eq_left h]
  · rw [Nat.min_eq_right h, List.take_of_length_le (by rw [List.length_drop, data_length]; omega), List.take_of_length_le (by rw [List.length_drop, data_length]; omega)]
set_option maxHeartbeats 1000000 in
theorem chunk_Split.calls (a0 : ByteArray) (r : List ByteArray) (w : World) (h : chunk_Split.f a0 = some r) :
    Calls Try.prog 24 #[.string a0] w fun e w' => ∃ v0_ : Value, e = .returned (v0_) ∧ Kd.R Kd.string 9 w' w.heap.size (fun _ => True) v0_ r ∧ Below w.heap.size w w' := by
  unfold chunk_Split.f at h
  by_cases c1 : a0.size ≤ 140737488351232
  case neg => rw [if_neg c1] at h; cases h
  rw [if_pos c1] at h
  obtain rfl := Option.some.inj h
  clear h
  have kb := fun W => print_bytes (P := Try.prog) 9 32 5 Try.underlying9 Try.underlying32 Try.underlying5 a0 W
  obtain ⟨i5, hi5, hz5⟩ := Option.map_eq_some_iff.1 info5
  simp only [Prod.mk.injEq] at hz5
  have hs5 := Aside0.mk (And.intro hi5 hz5.2.1)
  clear hi5 hz5
  obtain ⟨c, hc⟩ : ∃ c, grownCap w a0.size 0 5 = c := ⟨_, rfl⟩
  have hcap : a0.size ≤ c := by rw [← hc]; exact grownCap_ge _ _ _ _
  have r0 : Aside0 (ReadsInt (Lib.bytesWorld w 5 a0) .u8 (some ⟨w.heap.size, 0, none⟩) a0.size (bytesOf a0)) := ⟨bytes_reads w 5 a0 (by omega)⟩
  have b0 : Aside0 (Below w.heap.size w (Lib.bytesWorld w 5 a0)) := ⟨bytes_below (Below.refl _ _) (Nat.le_refl _) 5 a0⟩
  obtain ⟨W0, hW0⟩ : ∃ W0, Lib.bytesWorld w 5 a0 = W0 := ⟨_, rfl⟩
  rw [hW0] at r0 b0
  go_enter Try.func24, Try.ntmps24
  go_wp2
  go_loopw [3, 4] (fun v3 v4 wr => ∃ (j n cp : Nat) (A : Option Addr), v4 = .slice A n cp ∧ Aside0 (n = a0.size - 64 * j) ∧ 64 * j < a0.size + 64 ∧ n ≤ cp ∧ Aside0 (ReadsInt W0 .u8 A n ((bytesOf a0).drop (64 * j))) ∧
      Aside0 (Kd.R Kd.string 9 wr W0.heap.size (fun _ => True) v3 (chunk_Split.row a0 j)) ∧ Aside0 (Below W0.heap.size W0 wr)) (fun _ v4 _ => match v4 with | .slice _ n _ => n | _ => 0)
  case atStart => exact ⟨0, a0.size, c, _, rfl, ⟨by omega⟩, by omega, hcap, ⟨by simpa using r0.out⟩, ⟨Kd.R_nil _ _ _ _ _⟩, ⟨Below.refl _ _⟩⟩
  case round =>
    clear hW0
    obtain ⟨j, n, cp, A, rfl, hn, hj, hncp, hR, hO, hB⟩ := hrel
    by_cases hpos : 0 < n
    · obtain ⟨m, hm⟩ : ∃ m : Nat, min 64 n = m := ⟨_, rfl⟩
      have hmi : (if (n : Int) < 64 then (n : Int) else 64) = (m : Int) := by split <;> omega
      have hmn : m ≤ n := by omega
      have hm64 := Aside0.mk hm
      clear hm
      have hn' := hn.out
      have h18 : ∀ W : World, (Instr.slice 32 (.slice A n cp) none (some (.int .i64 (m : Int))) (some (.int .i64 (m : Int)))).run Try.prog W = .ok (.slice A m m) W := by
        intro W
        have hel : Try.prog.elem 32 = 5 := by simp [Program.elem, Try.underlying32]
        have hu : Try.prog.underlying 32 = some (.slice (Try.prog.elem 32)) := by rw [hel]; exact Try.underlying32
        have ha : (A.map fun x => x.add 0) = A := by cases A <;> simp [Addr.add]
        rw [run_slice_hm W 32 A n cp hu .i64 .i64 (m : Int) (m : Int) (by omega) (by omega) (by omega), hel]
        simp [sizeOf, typeInfo, hs5.out.1, hs5.out.2, sliced, Result.andThen, ha]
      obtain ⟨p, hp⟩ : ∃ p, chunk_Split.at_ a0 j = p := ⟨_, rfl⟩
      have h19 : (convert 32 9 (.slice A m m)).run Try.prog wr = .ok (.string p) wr := by
        have hr := (hR.out.below hB.out).take_ m hmn
        rw [string_of_reads Try.underlying32 Try.underlying5 Try.underlying9 hr, ← hm64.out, hn', chunk_Split.piece, hp]
      obtain ⟨A', h24, hA'⟩ := print_cut (P := Try.prog) 32 5 .i64 Try.underlying32 hs5.out.1 hs5.out.2 A n cp m hmn
      have hR' := Aside0.mk (hA' W0 .u8 _ hncp hR.out)
      have hl : (chunk_Split.row a0 j).length = j := chunk_Split.row_length a0 j
      clear hA' hn'
      have hP := Aside0.mk hp
      have hL := Aside0.mk hl
      clear hp hl
      go_wp2_with (first | ((with_reducible refine gate_builtin (b := .append) (xs := #[.tmp 14, .tmp 20]) rfl ?_); at_builtin; refine Kd.R_append Kd.string (w0 := W0) W0.heap.size rfl (.tmp 14) (.tmp 20) 40 9 (.string ⟨#[]⟩) 16 rfl Try.underlying40 info9 rfl (by decide) (by omega) u3 (chunk_Split.row a0 j) p [.string p] (fun _ => True) (fun _ => False) rfl rfl ?aP (fun _ hk => hk.elim) ?aF ?aO ?aB ?aS ?aL ?_; (case aP => exact rfl); (case aF => exact (fun _ _ => trivial)); (case aO => exact hO.out); (case aB => exact hB.out); (case aS => exact hB.out.size); (case aL => rw [hL.out]; omega); intro v1 w1 ho hb hg hat; have HO1 := Aside0.mk ho; have HB1 := Aside0.mk hb; clear ho hb hg hat))
      go_roundw
      case rel =>
        have hd : ((bytesOf a0).drop (64 * j)).drop m = (bytesOf a0).drop (64 * (j + 1)) ∨ (n - m = 0) := by
          by_cases h64 : m = 64
          · left; rw [List.drop_drop, h64]; congr 1
          · right; have := hm64.out; omega
        have hn1 := hn.out
        have hm1 := hm64.out
        refine ⟨j + 1, n - m, cp - m, A', rfl, ⟨by omega⟩, by omega, by omega, ⟨?_⟩, ⟨?_⟩, HB1⟩
        · rcases hd with hd | hd
          · rw [← hd]; exact hR'.out
          · rw [hd]
            refine ⟨?_, by omega, fun h => absurd h (by omega)⟩
            rw [List.length_drop, bytesOf_length]; omega
        · rw [chunk_Split.row_succ, hP.out]; exact HO1.out
      case measure => simp; omega
    · obtain rfl : n = 0 := by omega
      go_wp2
      go_ret
      have hn1 := hn.out
      have hjj : (a0.size + 63) / 64 = j := by omega
      rw [hjj]
      exact ⟨_, rfl, Kd.R_lower hO.out b0.out.size, below_then b0.out b0.out.size hB.out⟩


end Go.Proofs.Ytealmnllljoolaa.PChunkBack
