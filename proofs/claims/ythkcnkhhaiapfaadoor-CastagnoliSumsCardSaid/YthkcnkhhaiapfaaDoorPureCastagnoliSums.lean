/- The plain law of CastagnoliSums: that what the walk computes answers as the statement says. -/
import Derived.Test.YthkcnkhhaiapfaaDoorPCastagnoliSumsx14
import Derived.Test.YthkcnkhhaiapfaaDoorPureKit
namespace Go.Proofs.YthkcnkhhaiapfaaDoor.Pure.CastagnoliSums
open Go.RowKit Go.Proofs.YthkcnkhhaiapfaaDoor.PCastagnoliSums Go.Proofs.YthkcnkhhaiapfaaDoorW.PrintWords Go.Proofs.YthkcnkhhaiapfaaDoorW.PrintLast
theorem upd_f {s : Nat} {l : List Nat} (hs : s < 4294967296) (hl : Crc.By l) : castagnoli_Update.f (s : Int) (Crc.ints l) = some ((Crc.upd s l : Nat) : Int) := Crc.upd_if hs hl
theorem sum_f {l : List Nat} (hl : Crc.By l) : castagnoli_Sum.f (Crc.ints l) = some ((Crc.upd 0 l : Nat) : Int) := by
  unfold castagnoli_Sum.f
  have := upd_f (s := 0) (by decide) hl
  rw [show ((0 : Nat) : Int) = 0 from rfl] at this
  rw [this]
  rfl
theorem take_round (k : Nat) {r i : Nat} (hr : r < 4294967296) (hi : i < 8) : aquiferref01_take.l0 (k + 1) (r : Int) (i : Int) = aquiferref01_take.l0 k ((Crc.step r : Nat) : Int) ((i + 1 : Nat) : Int) := by
  rw [aquiferref01_take.l0, if_pos (by omega), Crc.wrap_succ (by omega)]
  have e1 : Int.tdiv (r : Int) 2 % 4294967296 = ((r / 2 : Nat) : Int) := by
    rw [Int.tdiv_eq_ediv_of_nonneg (by omega)]
    omega
  have e2 : Int.tmod (r : Int) 2 = ((r % 2 : Nat) : Int) := by
    rw [Int.tmod_eq_emod_of_nonneg (by omega)]
    omega
  rw [e1, e2]
  unfold Crc.step
  by_cases h : r % 2 = 1
  · rw [if_pos (by omega), if_pos h]
    have := Crc.xor32 (a := r / 2) (b := 2197175160) (by omega) (by decide)
    rw [show ((2197175160 : Nat) : Int) = 2197175160 from rfl] at this
    rw [this]
  · rw [if_neg (by omega), if_neg h, Nat.xor_zero]
theorem take_f (k : Nat) {r x : Nat} (hr : r < 4294967296) (hx : x < 256) : aquiferref01_take.f (k + 9) (r : Int) (x : Int) = some ((Crc.z (r ^^^ x) : Nat) : Int) := by
  unfold aquiferref01_take.f
  have e : (x : Int) % 4294967296 = (x : Int) := by omega
  rw [e, Crc.xor32 hr (by omega)]
  have hq : r ^^^ x < 4294967296 := Crc.xor_lt hr (by omega)
  generalize r ^^^ x = q at hq
  have h0 : (0 : Int) = ((0 : Nat) : Int) := rfl
  rw [h0]
  have h1 := Crc.step_lt hq
  have h2 := Crc.step_lt h1
  have h3 := Crc.step_lt h2
  have h4 := Crc.step_lt h3
  have h5 := Crc.step_lt h4
  have h6 := Crc.step_lt h5
  have h7 := Crc.step_lt h6
  rw [take_round _ hq (by decide), take_round _ h1 (by decide), take_round _ h2 (by decide), take_round _ h3 (by decide), take_round _ h4 (by decide), take_round _ h5 (by decide), take_round _ h6 (by decide), take_round _ h7 (by decide)]
  rw [aquiferref01_take.l0, if_neg (by decide)]
  rfl
theorem ref_loop (l : List Nat) (hl : Crc.By l) (hlen : l.length < 9223372036854775807) : ∀ (k i r : Nat), r < 4294967296 → i ≤ l.length → l.length - i + 10 ≤ k →
    aquiferref01_Update.l0 k (Crc.ints l) (r : Int) (i : Int) = some ((4294967295 ^^^ Crc.feed r (l.drop i) : Nat) : Int)
  | 0, _, _, _, _, h => by omega
  | k + 1, i, r, hr, hi, hk => by
    rw [aquiferref01_Update.l0, Crc.ints_length]
    by_cases h : i < l.length
    · rw [if_pos (by omega), if_pos (by omega), Crc.ints_rd]
      obtain ⟨k', rfl⟩ : ∃ k', k = k' + 9 := ⟨k - 9, by omega⟩
      rw [take_f k' hr (hl.get i), Option.bind_some, Crc.wrap_succ (by omega)]
      rw [ref_loop l hl hlen (k' + 9) (i + 1) _ (Crc.z_lt (Crc.xor_lt hr (by have := hl.get i; omega))) (by omega) (by omega)]
      rw [List.drop_eq_getElem_cons h, Crc.feed_cons, List.getD_eq_getElem?_getD, List.getElem?_eq_getElem h]
      rfl
    · obtain rfl : i = l.length := by omega
      rw [if_neg (by omega), List.drop_length, Crc.feed_nil]
      have := Crc.xor32 (b := 4294967295) hr (by decide)
      rw [show ((4294967295 : Nat) : Int) = 4294967295 from rfl] at this
      rw [this, Nat.xor_comm]
theorem ref_f {l : List Nat} (hl : Crc.By l) (hlen : l.length < 9223372036854775807) {k s : Nat} (hs : s < 4294967296) (hk : l.length + 10 ≤ k) : aquiferref01_Update.f k (s : Int) (Crc.ints l) = some ((Crc.upd s l : Nat) : Int) := by
  unfold aquiferref01_Update.f
  have := Crc.xor32 (b := 4294967295) hs (by decide)
  rw [show ((4294967295 : Nat) : Int) = 4294967295 from rfl] at this
  rw [this]
  have h := ref_loop l hl hlen k 0 (s ^^^ 4294967295) (Crc.xor_lt hs (by decide)) (by omega) (by omega)
  rw [List.drop_zero, Nat.xor_comm s] at h
  rw [Nat.xor_comm s]
  exact h
theorem CastagnoliSums : aquiferlaw01_CastagnoliSums.Pure := by
  intro a0 l1 h0 _ _ hb
  obtain ⟨s, rfl, hs⟩ := Crc.word_of h0
  obtain ⟨ns, rfl, hns⟩ := Crc.bytes_of l1 hb
  refine ⟨2010, ?_⟩
  have ht := hns.take 2000
  have hlen : (ns.take 2000).length ≤ 2000 := by rw [List.length_take]; omega
  unfold aquiferlaw01_CastagnoliSums.f aquiferlaw01_few.f aquiferref01_Sum.f aquiferlaw01_works.f
  rw [Crc.ints_take, Option.bind_some, sum_f ht, Option.bind_some]
  have r0 := ref_f ht (by omega) (k := 2010) (s := 0) (by decide) (by omega)
  rw [show ((0 : Nat) : Int) = 0 from rfl] at r0
  rw [r0, Option.bind_some, Option.bind_some, if_pos rfl, upd_f hs ht, Option.bind_some, ref_f ht (by omega) hs (by omega), Option.bind_some, if_pos rfl, Option.bind_some]
end Go.Proofs.YthkcnkhhaiapfaaDoor.Pure.CastagnoliSums
namespace Go.Proofs.YthkcnkhhaiapfaaDoor.Pure
theorem CastagnoliSums : PCastagnoliSums.aquiferlaw01_CastagnoliSums.Pure := CastagnoliSums.CastagnoliSums
end Go.Proofs.YthkcnkhhaiapfaaDoor.Pure
