/- Functions that the law reaches, each as a Lean function with the proof that the Go code comes to its answers; laid by wip/hook.py, a program of this session, over the print of the kit. -/
import Derived.Test.YtealmnllljoolaaDoorPChunkCuttingx0
namespace Go.Proofs.YtealmnllljoolaaDoor.PChunkCutting
open Go.RowKit Go.Proofs.YtealmnllljoolaaDoorW.PrintWords Go.Proofs.YtealmnllljoolaaDoorW.PrintLast Go.Proofs.YtealmnllljoolaaDoorW.PrintMore
attribute [local go_sem] max2_int min2_int max_two min_two max_three min_three max_four min_four   -- for this text's walks alone
set_option linter.unusedVariables false
set_option linter.unusedSimpArgs false

/-! ### chunk_Write: function 15 -/
/-- What Write writes. -/
def chunk_Write.row (a0 : ByteArray) (off : Nat) (a2 : ByteArray) : List Int :=
  Copy.over (Copy.over (List.replicate (if a0.size < off + a2.size then off + a2.size else a0.size) 0) 0 (bytesOf a0)) off (bytesOf a2)
def chunk_Write.f (a0 : ByteArray) (a1 : Int) (a2 : ByteArray) : Option (ByteArray × Int) :=
  if (a0.size : Int) > 4096 then (some ((⟨#[]⟩ : ByteArray), 3)) else (if a1 < 0 then (some ((⟨#[]⟩ : ByteArray), 2)) else (if a1 > 4096 then (some ((⟨#[]⟩ : ByteArray), 3)) else (if (a2.size : Int) > 4096 - a1 then (some ((⟨#[]⟩ : ByteArray), 3)) else (some (strOfNums (chunk_Write.row a0 a1.toNat a2), 0)))))
set_option maxHeartbeats 1000000 in
theorem chunk_Write.calls (a0 : ByteArray) (a1 : Int) (a2 : ByteArray) (r1 : ByteArray) (r2 : Int) (w : World) (h : chunk_Write.f a0 a1 a2 = some (r1, r2)) :
    Calls Tryd.prog 15 #[.string a0, .int .i64 a1, .string a2] w fun e w' => e = .returned (.tuple #[.string r1, .int .i64 r2]) ∧ Below w.heap.size w w' := by
  unfold chunk_Write.f at h
  by_cases c1 : (a0.size : Int) > 4096
  · rw [if_pos c1] at h
    simp only [Option.some.injEq, Prod.mk.injEq] at h
    obtain ⟨rfl, rfl⟩ := h
    have c1b : decide (4096 < a0.size) = true := decide_eq_true (by omega)
    go_enter Tryd.func15, Tryd.ntmps15
    go_wp2
    go_ret2
    exact ⟨rfl, Below.refl _ _⟩
  rw [if_neg c1] at h
  have c1b : decide (4096 < a0.size) = false := decide_eq_false (by omega)
  by_cases c2 : a1 < 0
  · rw [if_pos c2] at h
    simp only [Option.some.injEq, Prod.mk.injEq] at h
    obtain ⟨rfl, rfl⟩ := h
    go_enter Tryd.func15, Tryd.ntmps15
    go_wp2
    go_ret2
    exact ⟨rfl, Below.refl _ _⟩
  rw [if_neg c2] at h
  by_cases c3 : a1 > 4096
  · rw [if_pos c3] at h
    simp only [Option.some.injEq, Prod.mk.injEq] at h
    obtain ⟨rfl, rfl⟩ := h
    go_enter Tryd.func15, Tryd.ntmps15
    go_wp2
    go_ret2
    exact ⟨rfl, Below.refl _ _⟩
  rw [if_neg c3] at h
  obtain ⟨off, rfl⟩ := Int.eq_ofNat_of_zero_le (show 0 ≤ a1 by omega)
  by_cases c4 : (a2.size : Int) > 4096 - (off : Int)
  · rw [if_pos c4] at h
    simp only [Option.some.injEq, Prod.mk.injEq] at h
    obtain ⟨rfl, rfl⟩ := h
    go_enter Tryd.func15, Tryd.ntmps15
    go_wp2
    go_ret2
    exact ⟨rfl, Below.refl _ _⟩
  rw [if_neg c4] at h
  simp only [Option.some.injEq, Prod.mk.injEq, Int.toNat_natCast] at h
  obtain ⟨rfl, rfl⟩ := h
  obtain ⟨m, hm⟩ : ∃ m : Nat, (if a0.size < off + a2.size then off + a2.size else a0.size) = m := ⟨_, rfl⟩
  have hmi : (if (a0.size : Int) < (off : Int) + (a2.size : Int) then (off : Int) + (a2.size : Int) else (a0.size : Int)) = (m : Int) := by split at hm <;> split <;> omega
  have hm1 : a0.size ≤ m := by split at hm <;> omega
  have hm2 : off + a2.size ≤ m := by split at hm <;> omega
  have hm3 : m ≤ 4096 := by split at hm <;> omega
  have hrow : Hid (strOfNums (chunk_Write.row a0 off a2) = strOfNums (Copy.over (Copy.over (List.replicate m 0) 0 ((bytesOf a0).take a0.size)) off ((bytesOf a2).take a2.size))) := by
    show _ = _
    unfold chunk_Write.row
    rw [hm, List.take_of_length_le (by rw [bytesOf_length]; omega), List.take_of_length_le (by rw [bytesOf_length]; omega)]
  clear hm
  have hmk := print_make (P := Tryd.prog) 28 5 .u8 1 Tryd.underlying28 info5 (by omega) m (by omega)
  obtain ⟨i5, hi5, hz5⟩ := Option.map_eq_some_iff.1 info5
  have hs5 : (Tryd.prog.info? 5).map (fun i => i.size) = some 1 := by rw [hi5]; simp only [Prod.mk.injEq] at hz5; simp [hz5.2.1]
  simp only [Prod.mk.injEq] at hz5
  obtain ⟨A, hA, hcut⟩ : ∃ A : Option Addr, (off < m → A = some ⟨w.heap.size, off, none⟩) ∧ ∀ W : World, (Instr.slice 28 (.slice (some ⟨w.heap.size, 0, none⟩) m m) (some (.int .i64 (off : Int))) none none).run Tryd.prog W = .ok (.slice A (m - off) (m - off)) W := by
    refine ⟨if m = off then some ⟨w.heap.size, 0, none⟩ else some ⟨w.heap.size, off, none⟩, fun h => by rw [if_neg (by omega)], fun W => ?_⟩
    have hel : Tryd.prog.elem 28 = 5 := by simp [Program.elem, Tryd.underlying28]
    have hu : Tryd.prog.underlying 28 = some (.slice (Tryd.prog.elem 28)) := by rw [hel]; exact Tryd.underlying28
    rw [run_slice_l W 28 _ m m hu .i64 (off : Int) (Int.natCast_nonneg _) (by omega), hel]
    by_cases he : m = off
    · simp [sizeOf, typeInfo, hi5, hz5.2.1, sliced, Result.andThen, he]
    · simp [sizeOf, typeInfo, hi5, hz5.2.1, sliced, Result.andThen, he, Addr.add]
      by_cases h0 : off = 0 <;> simp [h0]
  have HA := Aside0.mk hA
  clear hA
  clear hi5
  go_enter Tryd.func15, Tryd.ntmps15
  go_wp2_with (first
    | (with_reducible refine Copy.copy_str (w0 := w) w.heap.size rfl (.tmp 34) (.tmp 35) 28 9 5 rfl Tryd.underlying28 hs5 w.heap.size m m (List.replicate m 0) 0 _ m m rfl a0 rfl a0.size (Nat.min_eq_left hm1) (fun _ => rfl) (by omega) (own_made w w.heap.size 5 .u8 m (Nat.le_refl _) (by omega)) ((Below.refl _ _).alloc (Nat.le_refl _) _) ?_; intro w1 HO1 HB1 hz1)
    | (with_reducible refine Copy.copy_str (w0 := w) w.heap.size rfl (.tmp 39) (.tmp 40) 28 9 5 rfl Tryd.underlying28 hs5 w.heap.size m m _ off A (m - off) (m - off) rfl a2 rfl a2.size (Nat.min_eq_left (by omega)) (fun h => HA.out (by omega)) (by omega) HO1 HB1 ?_; intro w2 HO2 HB2 hz2; have kst := own_string (P := Tryd.prog) Tryd.underlying28 Tryd.underlying5 Tryd.underlying9 HO2))
  go_ret2
  exact ⟨by rw [hrow.out]; rfl, HB2⟩


end Go.Proofs.YtealmnllljoolaaDoor.PChunkCutting
