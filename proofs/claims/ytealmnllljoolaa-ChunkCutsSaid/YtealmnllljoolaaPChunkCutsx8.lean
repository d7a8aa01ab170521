/- Functions that the law reaches, each as a Lean function with the proof that the Go code comes to its answers; laid by wip/hook.py, a program of this session, over the print of the kit. -/
import Derived.Test.YtealmnllljoolaaPChunkCutsx0
import Derived.Test.YtealmnllljoolaaPChunkCutsx3
import Derived.Test.YtealmnllljoolaaPChunkCutsx4
namespace Go.Proofs.Ytealmnllljoolaa.PChunkCuts
open Go.RowKit Go.Proofs.YtealmnllljoolaaW.PrintWords Go.Proofs.YtealmnllljoolaaW.PrintLast Go.Proofs.YtealmnllljoolaaW.PrintMore
attribute [local go_sem] max2_int min2_int max_two min_two max_three min_three max_four min_four   -- for this text's walks alone
set_option linter.unusedVariables false
set_option linter.unusedSimpArgs false

/-! ### chunk_Join: function 21 -/
/-- Do the texts have the lengths that the bounds ask for? -/
def chunk_Join.fit (l : List ByteArray) (n : Nat) : Nat → Bool
  | 0 => true
  | j + 1 => chunk_Join.fit l n j && decide ((l.getD j ByteArray.empty).size = min 64 (n - 64 * j))
def chunk_Join.row (l : List ByteArray) (n : Nat) : Nat → List Int
  | 0 => List.replicate n 0
  | j + 1 => Copy.over (chunk_Join.row l n j) (64 * j) (bytesOf (l.getD j ByteArray.empty))
def chunk_Join.f (l0 : List ByteArray) (a1 : Int) : Option (ByteArray × Int) :=
  if a1 < 0 ∨ a1 > 4096 then some ((⟨#[]⟩ : ByteArray), 2) else (if l0.length ≠ (a1.toNat + 63) / 64 then some ((⟨#[]⟩ : ByteArray), 5) else (if chunk_Join.fit l0 a1.toNat l0.length = true then some (strOfNums (chunk_Join.row l0 a1.toNat l0.length), 0) else some ((⟨#[]⟩ : ByteArray), 5)))
theorem chunk_Join.row_length (l : List ByteArray) (n : Nat) : ∀ j, chunk_Join.fit l n j = true → 64 * j ≤ n + 63 → (chunk_Join.row l n j).length = n
  | 0, _, _ => by simp [chunk_Join.row]
  | j + 1, h, hj => by
    simp only [chunk_Join.fit, Bool.and_eq_true, decide_eq_true_eq] at h
    have ih := chunk_Join.row_length l n j h.1 (by omega)
    rw [chunk_Join.row, Copy.over_length (by rw [ih, bytesOf_length]; omega), ih]
theorem chunk_Join.fit_mono (l : List ByteArray) (n : Nat) (j : Nat) (h : chunk_Join.fit l n j = false) : ∀ m, j ≤ m → chunk_Join.fit l n m = false := by
  intro m hm
  induction m with
  | zero => obtain rfl : j = 0 := by omega
            exact h
  | succ m ih =>
    rcases Nat.eq_or_lt_of_le hm with rfl | hlt
    · exact h
    · rw [chunk_Join.fit, ih (by omega), Bool.false_and]
theorem chunk_Join.count (a1 : Nat) (h : a1 ≤ 4096) : chunk_Count.f (a1 : Int) = some (((a1 + 63) / 64 : Nat) : Int) := by
  unfold chunk_Count.f
  by_cases h0 : (a1 : Int) < 1
  · rw [if_pos h0]
    obtain rfl : a1 = 0 := by omega
    rfl
  · rw [if_neg h0]
    have e1 : wrap64 ((a1 : Int) - 1) = (a1 : Int) - 1 := by unfold wrap64; omega
    rw [e1, Int.tdiv_eq_ediv_of_nonneg (by omega)]
    have e2 : wrap64 (((a1 : Int) - 1) / 64) = ((a1 : Int) - 1) / 64 := by unfold wrap64; omega
    rw [e2]
    congr 1
    unfold wrap64
    omega
theorem chunk_Join.bounds (n j : Nat) (hn : n ≤ 4096) (hj : j < (n + 63) / 64) : chunk_Bounds.f (n : Int) (j : Int) = some (((64 * j : Nat) : Int), ((min (64 * j + 64) n : Nat) : Int)) := by
  unfold chunk_Bounds.f
  rw [if_neg (by omega), if_neg (by omega), chunk_Join.count n hn]
  simp only [Option.bind_some]
  rw [if_neg (by omega)]
  have e1 : wrap64 ((j : Int) * 64) = ((64 * j : Nat) : Int) := by unfold wrap64; omega
  rw [e1]
  have e2 : wrap64 (((64 * j : Nat) : Int) + 64) = ((64 * j + 64 : Nat) : Int) := by unfold wrap64; omega
  rw [e2]
  congr 2
  unfold mn
  split <;> omega
set_option maxHeartbeats 2000000 in
theorem chunk_Join.calls (A0 : Option Addr) (c0 : Nat) (l0 : List ByteArray) (a1 : Int) (r1 : ByteArray) (r2 : Int) (w : World) (hr0 : Kd.C Kd.string w A0 l0.length l0) (hc0 : l0.length ≤ c0) (h : chunk_Join.f l0 a1 = some (r1, r2)) :
    Calls Try.prog 21 #[.slice A0 l0.length c0, .int .i64 a1] w fun e w' => e = .returned (.tuple #[.string r1, .int .i64 r2]) ∧ Below w.heap.size w w' := by
  have HR0 := Aside0.mk hr0
  clear hr0
  unfold chunk_Join.f at h
  by_cases c1 : a1 < 0 ∨ a1 > 4096
  · rw [if_pos c1] at h
    simp only [Option.some.injEq, Prod.mk.injEq] at h
    obtain ⟨rfl, rfl⟩ := h
    rcases c1 with c1 | c1
    · go_enter Try.func21, Try.ntmps21
      go_wp2
      go_ret2
      exact ⟨rfl, Below.refl _ _⟩
    · go_enter Try.func21, Try.ntmps21
      go_wp2
      go_ret2
      exact ⟨rfl, Below.refl _ _⟩
  rw [if_neg c1] at h
  obtain ⟨n, rfl⟩ := Int.eq_ofNat_of_zero_le (show 0 ≤ a1 by omega)
  have c1a : (n : Int) ≤ 4096 := by omega
  clear c1
  simp only [Int.toNat_natCast] at h
  have hcn := Aside0.mk (chunk_Join.count n (by omega))
  obtain ⟨m, hm⟩ : ∃ m : Nat, (n + 63) / 64 = m := ⟨_, rfl⟩
  rw [hm] at h
  have hm64 : 64 * m ≤ n + 63 ∧ n ≤ 64 * m := by omega
  have HM := Aside0.mk hm
  rw [hm] at hcn
  clear hm
  by_cases c2 : l0.length ≠ m
  · rw [if_pos c2] at h
    simp only [Option.some.injEq, Prod.mk.injEq] at h
    obtain ⟨rfl, rfl⟩ := h
    have c2b : (!((l0.length : Int) == (m : Int))) = true := by simp; omega
    have c2c : ((l0.length : Int) != (m : Int)) = true := by simp; omega
    have c2d : ((l0.length : Int) == (m : Int)) = false := by simp; omega
    clear c2
    go_enter Try.func21, Try.ntmps21
    go_wp2_with (first | (go_at_call 13; (with_reducible refine (chunk_Count.calls n m _ hcn.out).mono ?_); rintro e w' ⟨rfl, ⟨nd, rfl⟩⟩))
    go_ret2
    exact ⟨rfl, by repeat (first | exact Below.refl _ _ | apply pw_below_drewN)⟩
  rw [if_neg c2] at h
  have c2' : l0.length = m := by omega
  have c2b : ((l0.length : Int) != (m : Int)) = false := by simp; omega
  have c2d : ((l0.length : Int) == (m : Int)) = true := by simp; omega
  have c2m := Aside0.mk c2'
  clear c2 c2'
  have HH := Aside0.mk h
  clear h
  have hmk := print_make (P := Try.prog) 32 5 .u8 1 Try.underlying32 info5 (by omega) n (by omega)
  obtain ⟨i5, hi5, hz5⟩ := Option.map_eq_some_iff.1 info5
  simp only [Prod.mk.injEq] at hz5
  have hs5 : (Try.prog.info? 5).map (fun i => i.size) = some 1 := by rw [hi5]; simp [hz5.2.1]
  have hi := Aside0.mk (And.intro hi5 hz5.2.1)
  clear hi5 hz5
  go_enter Try.func21, Try.ntmps21
  go_wp2_with (first | (go_at_call 13; (with_reducible refine (chunk_Count.calls n m _ hcn.out).mono ?_); rintro e w' ⟨rfl, ⟨nd, rfl⟩⟩))
  go_loopw [28] (fun v28 wr => ∃ j : Nat, v28 = .int .i64 j ∧ j ≤ l0.length ∧ Aside0 (chunk_Join.fit l0 n j = true) ∧ Aside0 (wr.ownsRow w.heap.size 5 1 (.slice (some ⟨w.heap.size, 0, none⟩) n n) n (nums .u8 (chunk_Join.row l0 n j))) ∧ Aside0 (Below w.heap.size w wr)) (fun v28 _ => l0.length - (intOf v28).toNat)
  case atStart => exact ⟨0, rfl, Nat.zero_le _, ⟨rfl⟩, ⟨own_made (w.drewN nd) w.heap.size 5 .u8 n (Nat.le_refl _) (by omega)⟩, ⟨(pw_below_drewN (Below.refl _ _) nd).alloc (Nat.le_refl _) _⟩⟩
  case round =>
    obtain ⟨j, rfl, hj, hF, hO, hB⟩ := hrel
    by_cases hlt : j < l0.length
    · have hM := HM.out
      have hcm := c2m.out
      have hbd := Aside0.mk (chunk_Join.bounds n j (by omega) (by omega))
      obtain ⟨lo, hlo⟩ : ∃ lo, 64 * j = lo := ⟨_, rfl⟩
      obtain ⟨hi', hhi⟩ : ∃ hi', min (lo + 64) n = hi' := ⟨_, rfl⟩
      rw [hlo, hhi] at hbd
      have hb1 : lo ≤ hi' := by omega
      have hb2 : hi' ≤ n := by omega
      have hb3 : lo < n := by omega
      have hfd : Aside0 (hi' - lo = min 64 (n - 64 * j)) := ⟨by omega⟩
      have hjs : j ≤ 5000 := by omega
      have HLO := Aside0.mk hlo
      clear hlo hhi hM hcm
      obtain ⟨ad, rfl, hcw⟩ := (Kd.reads_of_C (enc := Value.string) (d := ByteArray.empty) (h1 := fun _ => rfl) HR0.out).at_ (j : Int) (by omega) (by omega)
      have hcell := pw_cell_below hB.out hcw
      obtain ⟨s, hs⟩ : ∃ s, l0.getD j ByteArray.empty = s := ⟨_, rfl⟩
      have hrd : rdOf ByteArray.empty l0 (j : Int) = s := hs
      rw [Int.toNat_natCast, hrd] at hcell
      clear hcw hrd
      have HS := Aside0.mk hs
      clear hs
      by_cases hfit : s.size = hi' - lo
      · have t1 : (!((s.size : Int) == (hi' : Int) - (lo : Int))) = false := by simp; omega
        have t2 : ((s.size : Int) == (hi' : Int) - (lo : Int)) = true := by simp; omega
        have t3 : ((s.size : Int) != (hi' : Int) - (lo : Int)) = false := by simp; omega
        have HFit := Aside0.mk hfit
        clear hfit
        obtain ⟨A', hA', h48⟩ : ∃ A' : Option Addr, (lo < n → A' = some ⟨w.heap.size, lo, none⟩) ∧ ∀ W : World, (Instr.slice 32 (.slice (some ⟨w.heap.size, 0, none⟩) n n) (some (.int .i64 (lo : Int))) (some (.int .i64 (hi' : Int))) none).run Try.prog W = .ok (.slice A' (hi' - lo) (n - lo)) W := by
          refine ⟨some ⟨w.heap.size, lo, none⟩, fun _ => rfl, fun W => ?_⟩
          have hel : Try.prog.elem 32 = 5 := by simp [Program.elem, Try.underlying32]
          have hu : Try.prog.underlying 32 = some (.slice (Try.prog.elem 32)) := by rw [hel]; exact Try.underlying32
          have hne : ¬ n = lo := by omega
          rw [run_slice_lh W 32 _ n n hu .i64 .i64 (lo : Int) (hi' : Int) (by omega) (by omega) (by omega), hel]
          simp [sizeOf, typeInfo, hi.out.1, hi.out.2, sliced, Result.andThen, Addr.add, hne]
          by_cases h0 : lo = 0 <;> simp [h0]
        have HA := Aside0.mk hA'
        clear hA'
        go_wp2_with (first
          | (go_at_call 19; (with_reducible refine (chunk_Bounds.calls n j lo hi' _ hbd.out).mono ?_); rintro e w1 ⟨rfl, hb⟩; have HO1 := Aside0.mk (hO.out.kept (grown_of_below hb none) (by simp [Value.ownBlock])); have HB1 := Aside0.mk (below_then hB.out hB.out.size hb); have hcell1 := pw_cell_below hb hcell; clear hb)
          | (with_reducible refine Copy.copy_str (w0 := w) w.heap.size rfl (.tmp 48) (.tmp 49) 32 9 5 rfl Try.underlying32 hs5 w.heap.size n n _ lo A' (hi' - lo) (n - lo) rfl s rfl s.size ?c1 (fun _ => HA.out hb3) ?c2 HO1.out HB1.out ?_; (case c1 => have := HFit.out; exact Nat.min_eq_left (by omega)); (case c2 => have := HFit.out; omega); intro w2 HO2 HB2 hz2; have HO3 := Aside0.mk HO2; have HB3 := Aside0.mk HB2; clear HO2 HB2 hz2))
        go_roundw
        case rel =>
          refine ⟨j + 1, by go_num, by omega, ⟨?_⟩, ⟨?_⟩, HB3⟩
          · rw [chunk_Join.fit, hF.out, HS.out, Bool.true_and, decide_eq_true_eq, HFit.out]
            exact hfd.out
          · have := HO3.out
            rw [List.take_of_length_le (by rw [bytesOf_length]; omega), ← HLO.out, ← HS.out] at this
            exact this
        case measure => simp [intOf]; omega
      · have t1 : (!((s.size : Int) == (hi' : Int) - (lo : Int))) = true := by simp; omega
        have t2 : ((s.size : Int) == (hi' : Int) - (lo : Int)) = false := by simp; omega
        have t3 : ((s.size : Int) != (hi' : Int) - (lo : Int)) = true := by simp; omega
        have HFit := Aside0.mk hfit
        clear hfit
        go_wp2_with (first
          | (go_at_call 19; (with_reducible refine (chunk_Bounds.calls n j lo hi' _ hbd.out).mono ?_); rintro e w1 ⟨rfl, hb⟩; have HB1 := Aside0.mk (below_then hB.out hB.out.size hb); have hcell1 := pw_cell_below hb hcell; clear hb))
        go_ret2
        have hh := HH.out
        have hff : chunk_Join.fit l0 n l0.length = false := chunk_Join.fit_mono l0 n (j + 1) (by
          rw [chunk_Join.fit, HS.out, hF.out, Bool.true_and, decide_eq_false_iff_not, ← hfd.out]
          exact HFit.out) _ (by omega)
        rw [hff, if_neg (by simp)] at hh
        simp only [Option.some.injEq, Prod.mk.injEq] at hh
        obtain ⟨rfl, rfl⟩ := hh
        exact ⟨rfl, HB1.out⟩
    · obtain rfl : j = l0.length := by omega
      have kst := own_string (P := Try.prog) Try.underlying32 Try.underlying5 Try.underlying9 hO.out
      go_wp2
      go_ret2
      have hh := HH.out
      rw [if_pos hF.out] at hh
      simp only [Option.some.injEq, Prod.mk.injEq] at hh
      obtain ⟨rfl, rfl⟩ := hh
      exact ⟨rfl, hB.out⟩


end Go.Proofs.Ytealmnllljoolaa.PChunkCuts
