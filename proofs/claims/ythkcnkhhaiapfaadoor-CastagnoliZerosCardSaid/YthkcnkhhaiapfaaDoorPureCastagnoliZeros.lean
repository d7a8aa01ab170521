/- The plain law of CastagnoliZeros: that what the walk computes answers as the statement says. -/
import Derived.Test.YthkcnkhhaiapfaaDoorPCastagnoliZerosx12
import Derived.Test.YthkcnkhhaiapfaaDoorPureKit
namespace Go.Proofs.YthkcnkhhaiapfaaDoor.Pure.CastagnoliZeros
open Go.RowKit Go.Proofs.YthkcnkhhaiapfaaDoor.PCastagnoliZeros Go.Proofs.YthkcnkhhaiapfaaDoorW.PrintWords Go.Proofs.YthkcnkhhaiapfaaDoorW.PrintLast
theorem upd_f {s : Nat} {l : List Nat} (hs : s < 4294967296) (hl : Crc.By l) : castagnoli_Update.f (s : Int) (Crc.ints l) = some ((Crc.upd s l : Nat) : Int) := Crc.upd_if hs hl
theorem sum_f {l : List Nat} (hl : Crc.By l) : castagnoli_Sum.f (Crc.ints l) = some ((Crc.upd 0 l : Nat) : Int) := by
  unfold castagnoli_Sum.f
  have := upd_f (s := 0) (by decide) hl
  rw [show ((0 : Nat) : Int) = 0 from rfl] at this
  rw [this]
  rfl
theorem combine_f {a b n : Nat} (ha : a < 4294967296) (hb : b < 4294967296) (hn : n ≤ 1048576) : castagnoli_Combine.f (a : Int) (b : Int) (n : Int) = some (((Crc.it Crc.z n a ^^^ b : Nat) : Int), 0) := by
  unfold castagnoli_Combine.f castagnoli_may.f
  rw [if_pos (by omega), Option.bind_some, if_pos (by simp; omega)]
  have h : castagnoli_shift.f (a : Int) (n : Int) = some ((Crc.it Crc.z n a : Nat) : Int) := Crc.shift_if ha hn
  rw [h, Option.bind_some, Crc.xor32 (Crc.it_lt n ha) hb]
theorem combine_no {a b n : Int} (hn : n < 0 ∨ 1048576 < n) : castagnoli_Combine.f a b n = some (0, 2) := by
  unfold castagnoli_Combine.f castagnoli_may.f
  by_cases h : n ≥ 0
  · rw [if_pos h, Option.bind_some, if_neg (by simp; omega)]
  · rw [if_neg h, Option.bind_some, if_neg (by simp)]
theorem zeros_f {n : Nat} (hn : n ≤ 1048576) : castagnoli_Zeros.f (n : Int) = some (((4294967295 ^^^ Crc.it Crc.z n 4294967295 : Nat) : Int), 0) := by
  unfold castagnoli_Zeros.f
  rw [if_pos (by omega), Int.toNat_natCast, Crc.shift_it (by decide) hn]
theorem zeros_no {n : Int} (hn : n < 0 ∨ 1048576 < n) : castagnoli_Zeros.f n = some (0, 2) := by
  unfold castagnoli_Zeros.f
  rw [if_neg (by omega)]
theorem part_of (a : Int) : ∃ n : Nat, Int.tmod (wrap64 ((Int.tmod a 3000) + 3000)) 3000 = (n : Int) ∧ n < 3000 := by
  have hb : -3000 < Int.tmod a 3000 ∧ Int.tmod a 3000 < 3000 := ⟨by have := Int.tmod_lt_of_pos (-a) (b := 3000) (by decide); rw [Int.neg_tmod] at this; omega, Int.tmod_lt_of_pos a (by decide)⟩
  have hw : wrap64 (Int.tmod a 3000 + 3000) = Int.tmod a 3000 + 3000 := by unfold wrap64; omega
  rw [hw, Int.tmod_eq_emod_of_nonneg (by omega)]
  exact ⟨((Int.tmod a 3000 + 3000) % 3000).toNat, by omega, by omega⟩
theorem CastagnoliZeros : aquiferlaw01_CastagnoliZeros.Pure := by
  intro l0 a1 a2 _ _ hb _ _
  obtain ⟨ns, rfl, hns⟩ := Crc.bytes_of l0 hb
  obtain ⟨m, hm, hm3⟩ := part_of a1
  obtain ⟨n, hn, hn3⟩ := part_of a2
  have ht := hns.take 2000
  unfold aquiferlaw01_CastagnoliZeros.f aquiferlaw01_few.f aquiferlaw01_works.f
  rw [hm, hn]
  have e1 : wrap64 ((m : Int) + (n : Int)) = ((m + n : Nat) : Int) := by unfold wrap64; omega
  have e2 : wrap64 (-1 - (m : Int)) < 0 := by unfold wrap64; omega
  have e3 : 1048576 < wrap64 (1048577 + (m : Int)) := by unfold wrap64; omega
  have hz : ∀ j, 4294967295 ^^^ Crc.it Crc.z j 4294967295 < 4294967296 := fun j => Crc.xor_lt (by decide) (Crc.it_lt j (by decide))
  have hu := Crc.upd_lt' (s := 0) (by decide) ht
  rw [e1, Crc.ints_take, Option.bind_some, zeros_f (by omega), Option.bind_some, zeros_f (by omega), Option.bind_some, zeros_f (by omega), Option.bind_some]
  rw [combine_f (hz m) (hz n) (by omega), Option.bind_some, sum_f ht, Option.bind_some, combine_f hu (hz m) (by omega), Option.bind_some, zeros_no (.inl e2), Option.bind_some, combine_no (.inr e3), Option.bind_some]
  have hzz : ∀ j, 4294967295 ^^^ Crc.it Crc.z j 4294967295 = Crc.upd 0 (List.replicate j 0) := fun j => (Crc.upd_zeros j).symm
  have g1 : Crc.it Crc.z n (4294967295 ^^^ Crc.it Crc.z m 4294967295) ^^^ (4294967295 ^^^ Crc.it Crc.z n 4294967295) = 4294967295 ^^^ Crc.it Crc.z (m + n) 4294967295 := by
    rw [hzz, hzz, hzz, ← List.replicate_append_replicate, Crc.upd_append, Crc.upd_combine (Crc.upd 0 (List.replicate m 0)), List.length_replicate]
  have g2 : Crc.it Crc.z m (Crc.upd 0 (ns.take 2000)) ^^^ (4294967295 ^^^ Crc.it Crc.z m 4294967295) = Crc.upd (Crc.upd 0 (ns.take 2000)) (List.replicate m 0) := by
    rw [hzz, Crc.upd_combine (Crc.upd 0 (ns.take 2000)), List.length_replicate]
  rw [g1, g2]
  simp only [if_true]
  rw [Option.bind_some, if_pos (by omega), if_pos (by omega), Crc.ints_zeros, Int.toNat_natCast, upd_f hu (Crc.By.zeros m), Option.bind_some, if_pos rfl, Option.bind_some]
end Go.Proofs.YthkcnkhhaiapfaaDoor.Pure.CastagnoliZeros
namespace Go.Proofs.YthkcnkhhaiapfaaDoor.Pure
theorem CastagnoliZeros : PCastagnoliZeros.aquiferlaw01_CastagnoliZeros.Pure := CastagnoliZeros.CastagnoliZeros
end Go.Proofs.YthkcnkhhaiapfaaDoor.Pure
