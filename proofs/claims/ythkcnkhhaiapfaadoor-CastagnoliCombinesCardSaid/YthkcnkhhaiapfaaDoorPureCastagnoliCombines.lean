/- The plain law of CastagnoliCombines: that what the walk computes answers as the statement says. -/
import Derived.Test.YthkcnkhhaiapfaaDoorPCastagnoliCombinesx14
import Derived.Test.YthkcnkhhaiapfaaDoorPureKit
namespace Go.Proofs.YthkcnkhhaiapfaaDoor.Pure.CastagnoliCombines
open Go.RowKit Go.Proofs.YthkcnkhhaiapfaaDoor.PCastagnoliCombines Go.Proofs.YthkcnkhhaiapfaaDoorW.PrintWords Go.Proofs.YthkcnkhhaiapfaaDoorW.PrintLast
theorem take_round (k : Nat) {r i : Nat} (hr : r < 4294967296) (hi : i < 8) : aquiferref01_take.l0 (k + 1) (r : Int) (i : Int) = aquiferref01_take.l0 k ((Crc.step r : Nat) : Int) ((i + 1 : Nat) : Int) := by
  rw [aquiferref01_take.l0, if_pos (by omega), Crc.wrap_succ (by omega)]
  have e1 : Int.tdiv (r : Int) 2 % 4294967296 = ((r / 2 : Nat) : Int) := by
    rw [Int.tdiv_eq_ediv_of_nonneg (by omega)]
    omega
  have e2 : Int.tmod (r : Int) 2 = ((r % 2 : Nat) : Int) := by
    rw [Int.tmod_eq_emod_of_nonneg (by omega)]
    omega
  rw [e1, e2]
  unfold Crc.step
  by_cases h : r % 2 = 1
  · rw [if_pos (by omega), if_pos h]
    have := Crc.xor32 (a := r / 2) (b := 2197175160) (by omega) (by decide)
    rw [show ((2197175160 : Nat) : Int) = 2197175160 from rfl] at this
    rw [this]
  · rw [if_neg (by omega), if_neg h, Nat.xor_zero]
theorem take_f (k : Nat) {r x : Nat} (hr : r < 4294967296) (hx : x < 256) : aquiferref01_take.f (k + 9) (r : Int) (x : Int) = some ((Crc.z (r ^^^ x) : Nat) : Int) := by
  unfold aquiferref01_take.f
  have e : (x : Int) % 4294967296 = (x : Int) := by omega
  rw [e, Crc.xor32 hr (by omega)]
  have hq : r ^^^ x < 4294967296 := Crc.xor_lt hr (by omega)
  generalize r ^^^ x = q at hq
  have h0 : (0 : Int) = ((0 : Nat) : Int) := rfl
  rw [h0]
  have h1 := Crc.step_lt hq
  have h2 := Crc.step_lt h1
  have h3 := Crc.step_lt h2
  have h4 := Crc.step_lt h3
  have h5 := Crc.step_lt h4
  have h6 := Crc.step_lt h5
  have h7 := Crc.step_lt h6
  rw [take_round _ hq (by decide), take_round _ h1 (by decide), take_round _ h2 (by decide), take_round _ h3 (by decide), take_round _ h4 (by decide), take_round _ h5 (by decide), take_round _ h6 (by decide), take_round _ h7 (by decide)]
  rw [aquiferref01_take.l0, if_neg (by decide)]
  rfl
theorem upd_f {s : Nat} {l : List Nat} (hs : s < 4294967296) (hl : Crc.By l) : castagnoli_Update.f (s : Int) (Crc.ints l) = some ((Crc.upd s l : Nat) : Int) := Crc.upd_if hs hl
theorem sum_f {l : List Nat} (hl : Crc.By l) : castagnoli_Sum.f (Crc.ints l) = some ((Crc.upd 0 l : Nat) : Int) := by
  unfold castagnoli_Sum.f
  have := upd_f (s := 0) (by decide) hl
  rw [show ((0 : Nat) : Int) = 0 from rfl] at this
  rw [this]
  rfl
theorem combine_f {a b n : Nat} (ha : a < 4294967296) (hb : b < 4294967296) (hn : n ≤ 1048576) : castagnoli_Combine.f (a : Int) (b : Int) (n : Int) = some (((Crc.it Crc.z n a ^^^ b : Nat) : Int), 0) := by
  unfold castagnoli_Combine.f castagnoli_may.f
  rw [if_pos (by omega), Option.bind_some, if_pos (by simp; omega)]
  have h : castagnoli_shift.f (a : Int) (n : Int) = some ((Crc.it Crc.z n a : Nat) : Int) := Crc.shift_if ha hn
  rw [h, Option.bind_some, Crc.xor32 (Crc.it_lt n ha) hb]
theorem combine_no {a b n : Int} (hn : n < 0 ∨ 1048576 < n) : castagnoli_Combine.f a b n = some (0, 2) := by
  unfold castagnoli_Combine.f castagnoli_may.f
  by_cases h : n ≥ 0
  · rw [if_pos h, Option.bind_some, if_neg (by simp; omega)]
  · rw [if_neg h, Option.bind_some, if_neg (by simp)]
theorem zeros_f {n : Nat} (hn : n ≤ 1048576) : castagnoli_Zeros.f (n : Int) = some (((4294967295 ^^^ Crc.it Crc.z n 4294967295 : Nat) : Int), 0) := by
  unfold castagnoli_Zeros.f
  rw [if_pos (by omega), Int.toNat_natCast, Crc.shift_it (by decide) hn]
theorem zeros_no {n : Int} (hn : n < 0 ∨ 1048576 < n) : castagnoli_Zeros.f n = some (0, 2) := by
  unfold castagnoli_Zeros.f
  rw [if_neg (by omega)]
theorem take0 (k : Nat) {r : Nat} (hr : r < 4294967296) : aquiferref01_take.f (k + 9) (r : Int) 0 = some ((Crc.z r : Nat) : Int) := by
  have := take_f k (x := 0) hr (by decide)
  rw [Nat.xor_zero] at this
  exact this
theorem ref_comb_loop {a b n : Nat} (hb : b < 4294967296) (hn : n ≤ 1048576) : ∀ (k i r : Nat), r < 4294967296 → i ≤ n → n - i + 10 ≤ k → Crc.it Crc.z (n - i) r = a →
    aquiferref01_Combine.l0 k (r : Int) (b : Int) (n : Int) (i : Int) = some (((a ^^^ b : Nat) : Int), 0)
  | 0, _, _, _, _, h, _ => by omega
  | k + 1, i, r, hr, hi, hk, he => by
    rw [aquiferref01_Combine.l0]
    by_cases h : i < n
    · rw [if_pos (by omega)]
      obtain ⟨k', rfl⟩ : ∃ k', k = k' + 9 := ⟨k - 9, by omega⟩
      rw [take0 k' hr, Option.bind_some, Crc.wrap_succ (by omega)]
      refine ref_comb_loop hb hn (k' + 9) (i + 1) _ (Crc.z_lt hr) (by omega) (by omega) ?_
      rw [← he, show n - i = n - (i + 1) + 1 by omega]
      rfl
    · obtain rfl : i = n := by omega
      rw [Nat.sub_self] at he
      obtain rfl : r = a := he
      rw [if_neg (by omega), Crc.xor32 hr hb]
theorem ref_zeros_loop {a n : Nat} (hn : n ≤ 1048576) : ∀ (k i r : Nat), r < 4294967296 → i ≤ n → n - i + 10 ≤ k → Crc.it Crc.z (n - i) r = a →
    aquiferref01_Zeros.l0 k (n : Int) (r : Int) (i : Int) = some (((4294967295 ^^^ a : Nat) : Int), 0)
  | 0, _, _, _, _, h, _ => by omega
  | k + 1, i, r, hr, hi, hk, he => by
    rw [aquiferref01_Zeros.l0]
    by_cases h : i < n
    · rw [if_pos (by omega)]
      obtain ⟨k', rfl⟩ : ∃ k', k = k' + 9 := ⟨k - 9, by omega⟩
      rw [take0 k' hr, Option.bind_some, Crc.wrap_succ (by omega)]
      refine ref_zeros_loop hn (k' + 9) (i + 1) _ (Crc.z_lt hr) (by omega) (by omega) ?_
      rw [← he, show n - i = n - (i + 1) + 1 by omega]
      rfl
    · obtain rfl : i = n := by omega
      rw [Nat.sub_self] at he
      obtain rfl : r = a := he
      rw [if_neg (by omega)]
      have := Crc.xor32 (b := 4294967295) hr (by decide)
      rw [show ((4294967295 : Nat) : Int) = 4294967295 from rfl] at this
      rw [this, Nat.xor_comm]
theorem j1_true {k a b : Nat} {x : Int} (ha : a < 4294967296) (hb : b < 4294967296) (hx : x < 0 ∨ 1048576 < x ∨ (0 ≤ x ∧ x ≤ 5000)) (hk : 5100 ≤ k) : aquiferlaw01_CastagnoliCombines.j1 k (a : Int) (b : Int) x = some true := by
  obtain ⟨k, rfl⟩ : ∃ k', k = k' + 1 := ⟨k - 1, by omega⟩
  obtain ⟨k, rfl⟩ : ∃ k', k = k' + 1 := ⟨k - 1, by omega⟩
  rw [aquiferlaw01_CastagnoliCombines.j1]
  unfold aquiferref01_Combine.f aquiferref01_Zeros.f
  rcases hx with hx | hx | hx
  · rw [combine_no (.inl hx), zeros_no (.inl hx), if_pos hx, if_pos hx, aquiferref01_Combine.j0, aquiferref01_Zeros.j0]
    rfl
  · rw [combine_no (.inr hx), zeros_no (.inr hx), if_neg (by omega), if_neg (by omega), aquiferref01_Combine.j0, aquiferref01_Zeros.j0]
    have : decide (x > 1048576) = true := by simp; omega
    rw [this]
    rfl
  · obtain ⟨n, rfl⟩ := Int.eq_ofNat_of_zero_le hx.1
    have hn : n ≤ 5000 := by omega
    have hd : ¬ decide ((n : Int) > 1048576) = true := by simp; omega
    rw [combine_f ha hb (by omega), zeros_f (by omega), if_neg (by omega), if_neg (by omega), aquiferref01_Combine.j0, aquiferref01_Zeros.j0, if_neg hd, if_neg hd]
    have e1 := ref_comb_loop (a := Crc.it Crc.z n a) (b := b) (n := n) hb (by omega) k 0 a ha (by omega) (by omega) rfl
    have e2 := ref_zeros_loop (a := Crc.it Crc.z n 4294967295) (n := n) (by omega) k 0 4294967295 (by decide) (by omega) (by omega) rfl
    rw [show ((0 : Nat) : Int) = 0 from rfl] at e1 e2
    rw [show ((4294967295 : Nat) : Int) = 4294967295 from rfl] at e2
    rw [e1, e2]
    simp only [Option.bind_some, if_true]
    rfl
theorem f_true (k a b : Nat) (x : Int) (ha : a < 4294967296) (hb : b < 4294967296) (hk : 5101 ≤ k) : aquiferlaw01_CastagnoliCombines.f k (a : Int) (b : Int) x = some true := by
  obtain ⟨k, rfl⟩ : ∃ k', k = k' + 1 := ⟨k - 1, by omega⟩
  unfold aquiferlaw01_CastagnoliCombines.f
  by_cases h : x > 5000
  · rw [if_pos h, aquiferlaw01_CastagnoliCombines.j0]
    by_cases h2 : x ≤ 1048576
    · rw [if_pos (by simp; omega)]
      refine j1_true ha hb (.inr (.inr ?_)) (by omega)
      rw [Int.tmod_eq_emod_of_nonneg (by omega)]
      omega
    · rw [if_neg (by simp; omega)]
      exact j1_true ha hb (.inr (.inl (by omega))) (by omega)
  · rw [if_neg h, aquiferlaw01_CastagnoliCombines.j0, if_neg (by simp)]
    exact j1_true ha hb (by omega) (by omega)
theorem CastagnoliCombines : aquiferlaw01_CastagnoliCombines.Pure := by
  intro a0 a1 a2 h0 h1 _
  obtain ⟨a, rfl, ha⟩ := Crc.word_of h0
  obtain ⟨b, rfl, hb⟩ := Crc.word_of h1
  exact ⟨5101, f_true 5101 a b a2 ha hb (Nat.le_refl _)⟩
end Go.Proofs.YthkcnkhhaiapfaaDoor.Pure.CastagnoliCombines
namespace Go.Proofs.YthkcnkhhaiapfaaDoor.Pure
theorem CastagnoliCombines : PCastagnoliCombines.aquiferlaw01_CastagnoliCombines.Pure := CastagnoliCombines.CastagnoliCombines
end Go.Proofs.YthkcnkhhaiapfaaDoor.Pure
