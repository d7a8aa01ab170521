/- The plain law of CastagnoliLinear: that what the walk computes answers as the statement says. -/
import Derived.Test.YthkcnkhhaiapfaaDoorPCastagnoliLinearx11
import Derived.Test.YthkcnkhhaiapfaaDoorPureKit
namespace Go.Proofs.YthkcnkhhaiapfaaDoor.Pure.CastagnoliLinear
open Go.RowKit Go.Proofs.YthkcnkhhaiapfaaDoor.PCastagnoliLinear Go.Proofs.YthkcnkhhaiapfaaDoorW.PrintWords Go.Proofs.YthkcnkhhaiapfaaDoorW.PrintLast
theorem upd_f {s : Nat} {l : List Nat} (hs : s < 4294967296) (hl : Crc.By l) : castagnoli_Update.f (s : Int) (Crc.ints l) = some ((Crc.upd s l : Nat) : Int) := Crc.upd_if hs hl
theorem sum_f {l : List Nat} (hl : Crc.By l) : castagnoli_Sum.f (Crc.ints l) = some ((Crc.upd 0 l : Nat) : Int) := by
  unfold castagnoli_Sum.f
  have := upd_f (s := 0) (by decide) hl
  rw [show ((0 : Nat) : Int) = 0 from rfl] at this
  rw [this]
  rfl
theorem zip_by {a b : List Nat} (ha : Crc.By a) (hb : Crc.By b) : Crc.By (List.zipWith (· ^^^ ·) a b) := by
  intro x hx
  obtain ⟨i, hi, rfl⟩ := List.mem_iff_getElem.1 hx
  rw [List.getElem_zipWith]
  exact Nat.xor_lt_two_pow (n := 8) (ha _ (List.getElem_mem _)) (hb _ (List.getElem_mem _))
theorem fill {z : List Nat} {n i : Nat} (hz : z.length = n) (hi : i < n) : (z.take i ++ List.replicate (n - i) 0).set i (z.getD i 0) = z.take (i + 1) ++ List.replicate (n - (i + 1)) 0 := by
  have hl : (z.take i).length = i := by rw [List.length_take]; omega
  rw [List.set_append_right _ _ (by omega), hl, Nat.sub_self, show n - i = n - (i + 1) + 1 by omega, List.replicate_succ, List.set_cons_zero, List.take_add_one, List.getD_eq_getElem?_getD, List.getElem?_eq_getElem (by omega)]
  simp only [Option.toList_some, List.append_assoc, List.singleton_append, Option.getD_some]
theorem loop (a b c : List Nat) (ha : Crc.By a) (hb : Crc.By b) (hc : Crc.By c) (n : Nat) (h1 : n ≤ a.length) (h2 : n ≤ b.length) (h3 : n ≤ c.length) (hn : n < 9223372036854775807) (z : List Nat) (hz : z = List.zipWith (· ^^^ ·) (List.zipWith (· ^^^ ·) (a.take n) (b.take n)) (c.take n)) : ∀ k i, i ≤ n → n - i + 1 ≤ k →
    aquiferlaw01_CastagnoliLinear.l0 k (Crc.ints a) (Crc.ints b) (Crc.ints c) (n : Int) (Crc.ints (z.take i ++ List.replicate (n - i) 0)) (n : Int) (i : Int) = some true
  | 0, _, _, h => by omega
  | k + 1, i, hi, hk => by
    have hzl : z.length = n := by rw [hz]; simp; omega
    have hzb : Crc.By z := by rw [hz]; exact zip_by (zip_by (ha.take n) (hb.take n)) (hc.take n)
    rw [aquiferlaw01_CastagnoliLinear.l0]
    simp only [Crc.ints_length]
    by_cases h : i < n
    · have hl : (z.take i ++ List.replicate (n - i) 0).length = n := by simp [hzl]; omega
      rw [hl, if_pos (by omega), if_pos (by omega), if_pos (by omega), if_pos (by omega), if_pos (by omega), if_pos (by omega)]
      rw [Crc.ints_rd, Crc.ints_rd, Crc.ints_rd, Crc.wrap_succ (by omega), Int.toNat_natCast]
      have g : Go.bits .xor .u8 (Go.bits .xor .u8 ((a.getD i 0 : Nat) : Int) ((b.getD i 0 : Nat) : Int)) ((c.getD i 0 : Nat) : Int) = ((z.getD i 0 : Nat) : Int) := by
        rw [Go.u8_xor_nat _ _ (ha.get i) (hb.get i), Go.u8_xor_nat _ _ (Nat.xor_lt_two_pow (n := 8) (ha.get i) (hb.get i)) (hc.get i), hz]
        simp only [List.getD_eq_getElem?_getD, List.getElem?_zipWith, List.getElem?_take_of_lt h]
        rw [List.getElem?_eq_getElem (show i < a.length by omega), List.getElem?_eq_getElem (show i < b.length by omega), List.getElem?_eq_getElem (show i < c.length by omega)]
        rfl
      rw [g, Crc.ints_set, fill hzl h]
      exact loop a b c ha hb hc n h1 h2 h3 hn z hz k (i + 1) (by omega) (by omega)
    · obtain rfl : i = n := by omega
      rw [if_neg (by omega), Nat.sub_self, List.replicate_zero, List.append_nil, List.take_of_length_le (by omega), sum_f hzb, Option.bind_some, if_pos (by omega), if_pos (by omega), Int.toNat_natCast, Crc.ints_take, Crc.ints_take, Crc.ints_take]
      rw [sum_f (ha.take i), Option.bind_some, if_pos (by omega), sum_f (hb.take i), Option.bind_some, if_pos (by omega), sum_f (hc.take i), Option.bind_some]
      have u := fun l (hl : Crc.By l) => Crc.upd_lt' (s := 0) (by decide) hl
      rw [Crc.xor32 (u _ (ha.take i)) (u _ (hb.take i)), Crc.xor32 (Crc.xor_lt (u _ (ha.take i)) (u _ (hb.take i))) (u _ (hc.take i)), hz]
      rw [Crc.upd_zip3 _ _ _ (by simp; omega) (by simp; omega), if_pos rfl]
      rfl
theorem CastagnoliLinear : aquiferlaw01_CastagnoliLinear.Pure := by
  intro l0 l1 l2 _ _ hb0 _ _ hb1 _ _ hb2
  obtain ⟨a, rfl, ha⟩ := Crc.bytes_of l0 hb0
  obtain ⟨b, rfl, hb⟩ := Crc.bytes_of l1 hb1
  obtain ⟨c, rfl, hc⟩ := Crc.bytes_of l2 hb2
  refine ⟨2010, ?_⟩
  unfold aquiferlaw01_CastagnoliLinear.f aquiferlaw01_few.f
  rw [Crc.ints_take, Option.bind_some]
  have hl : (a.take 2000).length ≤ 2000 := by rw [List.length_take]; omega
  obtain ⟨n, hn, h1, h2, h3⟩ : ∃ n : Nat, mn (mn ((Crc.ints (a.take 2000)).length : Int) ((Crc.ints b).length : Int)) ((Crc.ints c).length : Int) = (n : Int) ∧ n ≤ (a.take 2000).length ∧ n ≤ b.length ∧ n ≤ c.length := by
    simp only [Crc.ints_length]
    refine ⟨min (min (a.take 2000).length b.length) c.length, ?_, by omega, by omega, by omega⟩
    unfold mn
    split <;> split <;> omega
  rw [hn, if_pos (by omega), if_pos (by omega), Int.toNat_natCast, Crc.ints_zeros]
  exact loop _ b c (ha.take 2000) hb hc n h1 h2 h3 (by omega) _ rfl 2010 0 (by omega) (by omega)
end Go.Proofs.YthkcnkhhaiapfaaDoor.Pure.CastagnoliLinear
namespace Go.Proofs.YthkcnkhhaiapfaaDoor.Pure
theorem CastagnoliLinear : PCastagnoliLinear.aquiferlaw01_CastagnoliLinear.Pure := CastagnoliLinear.CastagnoliLinear
end Go.Proofs.YthkcnkhhaiapfaaDoor.Pure
