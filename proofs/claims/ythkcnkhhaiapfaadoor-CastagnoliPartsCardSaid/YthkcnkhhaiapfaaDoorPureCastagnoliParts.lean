/- The plain law of CastagnoliParts: that what the walk computes answers as the statement says. -/
import Derived.Test.YthkcnkhhaiapfaaDoorPCastagnoliPartsx11
import Derived.Test.YthkcnkhhaiapfaaDoorPureKit
namespace Go.Proofs.YthkcnkhhaiapfaaDoor.Pure.CastagnoliParts
open Go.RowKit Go.Proofs.YthkcnkhhaiapfaaDoor.PCastagnoliParts Go.Proofs.YthkcnkhhaiapfaaDoorW.PrintWords Go.Proofs.YthkcnkhhaiapfaaDoorW.PrintLast
theorem upd_f {s : Nat} {l : List Nat} (hs : s < 4294967296) (hl : Crc.By l) : castagnoli_Update.f (s : Int) (Crc.ints l) = some ((Crc.upd s l : Nat) : Int) := Crc.upd_if hs hl
theorem sum_f {l : List Nat} (hl : Crc.By l) : castagnoli_Sum.f (Crc.ints l) = some ((Crc.upd 0 l : Nat) : Int) := by
  unfold castagnoli_Sum.f
  have := upd_f (s := 0) (by decide) hl
  rw [show ((0 : Nat) : Int) = 0 from rfl] at this
  rw [this]
  rfl
theorem combine_f {a b n : Nat} (ha : a < 4294967296) (hb : b < 4294967296) (hn : n ≤ 1048576) : castagnoli_Combine.f (a : Int) (b : Int) (n : Int) = some (((Crc.it Crc.z n a ^^^ b : Nat) : Int), 0) := by
  unfold castagnoli_Combine.f castagnoli_may.f
  rw [if_pos (by omega), Option.bind_some, if_pos (by simp; omega)]
  have h : castagnoli_shift.f (a : Int) (n : Int) = some ((Crc.it Crc.z n a : Nat) : Int) := Crc.shift_if ha hn
  rw [h, Option.bind_some, Crc.xor32 (Crc.it_lt n ha) hb]
theorem combine_no {a b n : Int} (hn : n < 0 ∨ 1048576 < n) : castagnoli_Combine.f a b n = some (0, 2) := by
  unfold castagnoli_Combine.f castagnoli_may.f
  by_cases h : n ≥ 0
  · rw [if_pos h, Option.bind_some, if_neg (by simp; omega)]
  · rw [if_neg h, Option.bind_some, if_neg (by simp)]
theorem seg_of (v r : Int) (h0 : 0 ≤ r) (h1 : r ≤ 2000) : ∃ m : Nat, Int.tmod (wrap64 ((wrap64 ((Int.tmod v (wrap64 (r + 1))) + r)) + 1)) (wrap64 (r + 1)) = (m : Int) ∧ (m : Int) ≤ r := by
  have e : wrap64 (r + 1) = r + 1 := by unfold wrap64; omega
  rw [e]
  have b1 := Int.tmod_lt_of_pos v (show (0 : Int) < r + 1 by omega)
  have b2 := Int.lt_tmod_of_pos v (show (0 : Int) < r + 1 by omega)
  have e1 : wrap64 (Int.tmod v (r + 1) + r) = Int.tmod v (r + 1) + r := by unfold wrap64; omega
  have e2 : wrap64 (Int.tmod v (r + 1) + r + 1) = Int.tmod v (r + 1) + r + 1 := by unfold wrap64; omega
  rw [e1, e2, Int.tmod_eq_emod_of_nonneg (by omega)]
  have c1 := Int.emod_nonneg (Int.tmod v (r + 1) + r + 1) (show r + 1 ≠ 0 by omega)
  have c2 := Int.emod_lt_of_pos (Int.tmod v (r + 1) + r + 1) (show (0 : Int) < r + 1 by omega)
  exact ⟨((Int.tmod v (r + 1) + r + 1) % (r + 1)).toNat, by omega, by omega⟩
theorem last (a : List Nat) (ha : Crc.By a) (x1 : List Int) (k : Nat) (x8 : Int) : aquiferlaw01_CastagnoliParts.j1 (k + 1) (Crc.ints a) x1 (a.length : Int) ((Crc.upd 0 a : Nat) : Int) ((Crc.upd 0 a : Nat) : Int) x8 false = some true := by
  rw [aquiferlaw01_CastagnoliParts.j1, if_neg (by decide), Crc.ints_length, if_pos rfl, sum_f ha, Option.bind_some, if_pos rfl, if_pos rfl]
  rfl
theorem one (a : List Nat) (ha : Crc.By a) (hl : a.length ≤ 2000) (x1 : List Int) (k p m i : Nat) (hm : p + m ≤ a.length) (hi : i < 100) :
    aquiferlaw01_CastagnoliParts.j3 (k + 1) (Crc.ints a) x1 (p : Int) ((Crc.upd 0 (a.take p) : Nat) : Int) ((Crc.upd 0 (a.take p) : Nat) : Int) (i : Int) (m : Int) =
      aquiferlaw01_CastagnoliParts.l0 k (Crc.ints a) x1 ((p + m : Nat) : Int) ((Crc.upd 0 (a.take (p + m)) : Nat) : Int) ((Crc.upd 0 (a.take (p + m)) : Nat) : Int) ((i + 1 : Nat) : Int) := by
  have e : wrap64 ((p : Int) + (m : Int)) = ((p + m : Nat) : Int) := by unfold wrap64; omega
  rw [aquiferlaw01_CastagnoliParts.j3, e, Crc.ints_length, if_pos (by omega), if_pos (by omega), if_pos (by omega), Int.toNat_natCast, Int.toNat_natCast, Crc.ints_take, Crc.ints_drop, Option.bind_some]
  have hs : Crc.By ((a.take (p + m)).drop p) := (ha.take _).drop _
  have hu := Crc.upd_lt' (s := 0) (by decide) (ha.take p)
  have hsl : ((a.take (p + m)).drop p).length = m := by simp; omega
  have hj : a.take p ++ (a.take (p + m)).drop p = a.take (p + m) := by
    have := List.take_append_drop p (a.take (p + m))
    rwa [List.take_take, Nat.min_eq_left (by omega)] at this
  have hc : Crc.upd (Crc.upd 0 (a.take p)) ((a.take (p + m)).drop p) = Crc.upd 0 (a.take (p + m)) := by rw [← Crc.upd_append, hj]
  rw [upd_f hu hs, Option.bind_some, sum_f hs, Option.bind_some, combine_f hu (Crc.upd_lt' (by decide) hs) (by omega), Option.bind_some, if_pos rfl, Crc.wrap_succ (by omega)]
  have h2 := Crc.upd_combine (Crc.upd 0 (a.take p)) ((a.take (p + m)).drop p)
  rw [hsl, hc] at h2
  rw [← h2, hc]
theorem loop (a : List Nat) (ha : Crc.By a) (hl : a.length ≤ 2000) (x1 : List Int) (t : Nat) (ht : t = min x1.length 12) : ∀ k i p, i ≤ t + 1 → (i = t + 1 → p = a.length) → p ≤ a.length → 4 * (t + 1 - i) + 2 ≤ k →
    aquiferlaw01_CastagnoliParts.l0 k (Crc.ints a) x1 (p : Int) ((Crc.upd 0 (a.take p) : Nat) : Int) ((Crc.upd 0 (a.take p) : Nat) : Int) (i : Int) = some true
  | k, i, p, hi, hp, hpl, hk => by
    by_cases h : i = t + 1
    · obtain rfl := hp h
      obtain ⟨k, rfl⟩ : ∃ k', k = k' + 2 := ⟨k - 2, by omega⟩
      rw [aquiferlaw01_CastagnoliParts.l0, List.take_of_length_le (Nat.le_refl _)]
      by_cases h2 : (i : Int) ≤ (x1.length : Int)
      · have : decide ((i : Int) ≤ 12) = false := by simp; omega
        rw [if_pos h2, this]
        exact last a ha x1 k i
      · rw [if_neg h2]
        exact last a ha x1 k i
    · obtain ⟨k, rfl⟩ : ∃ k', k = k' + 4 := ⟨k - 4, by omega⟩
      rw [aquiferlaw01_CastagnoliParts.l0, if_pos (by omega)]
      have d1 : decide ((i : Int) ≤ 12) = true := by simp; omega
      have e1 : wrap64 (((Crc.ints a).length : Int) - (p : Int)) = ((a.length - p : Nat) : Int) := by
        rw [Crc.ints_length]
        unfold wrap64
        omega
      rw [d1, aquiferlaw01_CastagnoliParts.j1, if_pos rfl, e1]
      by_cases h3 : i < t
      · have d2 : decide ((i : Int) < 12) = true := by simp; omega
        obtain ⟨m, hm, hm2⟩ := seg_of (rd x1 i) ((a.length - p : Nat) : Int) (by omega) (by omega)
        have e2 : ¬ wrap64 (((a.length - p : Nat) : Int) + 1) = 0 := by unfold wrap64; omega
        rw [if_pos (by omega), d2, aquiferlaw01_CastagnoliParts.j2, if_pos rfl, if_pos (by omega), if_pos (by omega), if_neg e2, hm, one a ha hl x1 k p m i (by omega) (by omega)]
        exact loop a ha hl x1 t ht k (i + 1) (p + m) (by omega) (by omega) (by omega) (by omega)
      · have hfin : aquiferlaw01_CastagnoliParts.j2 (k + 2) (Crc.ints a) x1 (p : Int) ((Crc.upd 0 (a.take p) : Nat) : Int) ((Crc.upd 0 (a.take p) : Nat) : Int) (i : Int) ((a.length - p : Nat) : Int) false = some true := by
          rw [aquiferlaw01_CastagnoliParts.j2, if_neg (by decide), one a ha hl x1 k p (a.length - p) i (by omega) (by omega)]
          exact loop a ha hl x1 t ht k (i + 1) (p + (a.length - p)) (by omega) (by omega) (by omega) (by omega)
        by_cases h4 : (i : Int) < (x1.length : Int)
        · have d2 : decide ((i : Int) < 12) = false := by simp; omega
          rw [if_pos h4, d2]
          exact hfin
        · rw [if_neg h4]
          exact hfin
  termination_by k => k
theorem CastagnoliParts : aquiferlaw01_CastagnoliParts.Pure := by
  intro l0 l1 _ _ hb _ _ _
  obtain ⟨a, rfl, ha⟩ := Crc.bytes_of l0 hb
  refine ⟨100, ?_⟩
  unfold aquiferlaw01_CastagnoliParts.f aquiferlaw01_few.f
  rw [Crc.ints_take, Option.bind_some]
  have h := loop (a.take 2000) (ha.take 2000) (by rw [List.length_take]; omega) l1 _ rfl 100 0 0 (by omega) (by omega) (by omega) (by omega)
  rw [show Crc.upd 0 ((a.take 2000).take 0) = 0 by rw [List.take_zero]; decide] at h
  exact h
end Go.Proofs.YthkcnkhhaiapfaaDoor.Pure.CastagnoliParts
namespace Go.Proofs.YthkcnkhhaiapfaaDoor.Pure
theorem CastagnoliParts : PCastagnoliParts.aquiferlaw01_CastagnoliParts.Pure := CastagnoliParts.CastagnoliParts
end Go.Proofs.YthkcnkhhaiapfaaDoor.Pure
