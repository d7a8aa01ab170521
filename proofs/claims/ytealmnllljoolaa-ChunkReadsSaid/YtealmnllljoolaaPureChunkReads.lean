/- What was written is read, all else stays as it was, and behind the old end are noughts: chunk.Write and chunk.Read, for every two strings and every place. No condition. -/
import Derived.Test.YtealmnllljoolaaPChunkReadsx1
import Derived.Lib.Strings
namespace Go.Proofs.Ytealmnllljoolaa.Pure
open Go.RowKit Go.Proofs.Ytealmnllljoolaa.PChunkReads Go.Proofs.YtealmnllljoolaaW.PrintWords Go.Proofs.YtealmnllljoolaaW.PrintLast Go.Proofs.Ytealmnllljoolaa.Copy

theorem few_some (s : ByteArray) : ∃ t, aquiferlaw15_few.f s = some t ∧ t.size ≤ 4200 := by
  unfold aquiferlaw15_few.f
  have hm : 0 ≤ mn (s.size : Int) 4200 ∧ mn (s.size : Int) 4200 ≤ s.size ∧ mn (s.size : Int) 4200 ≤ 4200 := by
    unfold mn
    split <;> omega
  rw [if_pos hm.1, if_pos hm.2.1]
  exact ⟨_, rfl, by simp; omega⟩

theorem works_true : aquiferlaw15_works.f = some true := by decide +kernel

theorem bounds_of {a : Int} (h : (Lit.int .i64 a).wf = true) : -9223372036854775808 ≤ a ∧ a ≤ 9223372036854775807 := by
  simp [Lit.wf, IntKind.min, IntKind.max, IntKind.signed, IntKind.bits] at h
  omega

theorem write_bytes (a0 a2 : ByteArray) (off m : Nat) (hm : (if a0.size < off + a2.size then off + a2.size else a0.size) = m) :
    (strOfNums (chunk_Write.row a0 off a2)).data.toList = over (over (List.replicate m 0) 0 a0.data.toList) off a2.data.toList := by
  rw [strOfNums_data]
  unfold chunk_Write.row
  rw [over_map, over_map, back_bytes, back_bytes, hm]
  simp

theorem write_facts (a0 a2 t : ByteArray) (off m : Nat) (hm : (if a0.size < off + a2.size then off + a2.size else a0.size) = m) (ht : strOfNums (chunk_Write.row a0 off a2) = t) :
    t.size = m ∧ (∀ i : Nat, i < m → (i < off ∨ off + a2.size ≤ i) → bt t i = if i < a0.size then bt a0 i else 0) ∧ (t.extract off t.size).extract 0 (min a2.size (t.size - off)) = a2 := by
  have h1 : a0.size ≤ m := by split at hm <;> omega
  have h2 : off + a2.size ≤ m := by split at hm <;> omega
  have hb := write_bytes a0 a2 off m hm
  rw [ht] at hb
  have hl : (over (List.replicate m (0 : UInt8)) 0 a0.data.toList).length = m := by rw [over_length (by simp; omega)]; simp
  have hs : t.size = m := by rw [← data_length, hb, over_length (by rw [hl, data_length]; omega), hl]
  refine ⟨hs, fun i hi ho => ?_, ?_⟩
  · rw [bt_list, hb, over_get (by rw [hl, data_length]; omega), data_length, if_neg (by omega), over_get (by simp; omega), data_length]
    by_cases h : i < a0.size
    · rw [if_pos (by omega), if_pos h, bt_list]; rfl
    · rw [if_neg (by omega), if_neg h]
      simp [List.getD_eq_getElem?_getD, hi]
  · apply ba_ext
    rw [Lib.extract_data, Lib.extract_data, hs, Nat.min_eq_left (by omega), hb]
    simp only [List.drop_zero, Nat.sub_zero]
    rw [List.take_take, Nat.min_eq_left (by omega)]
    unfold over
    rw [List.drop_append, List.drop_eq_nil_of_le (by rw [List.length_take]; omega), List.nil_append, List.length_take, ← over, hl, Nat.min_eq_left (by omega), Nat.sub_self, List.drop_zero, List.take_append, List.take_of_length_le (by rw [data_length]; omega), data_length, Nat.sub_self, List.take_zero, List.append_nil]

theorem loop_true (s d t : ByteArray) (off : Nat) (_hs : s.size ≤ 4200) (hd : d.size ≤ 4200) (ho : off ≤ 4096) (hm : t.size ≤ 9000) (hb : ∀ i : Nat, i < t.size → (i < off ∨ off + d.size ≤ i) → bt t i = if i < s.size then bt s i else 0) (r : Nat) :
    ∀ (k i : Nat), i ≤ t.size → t.size - i = r → r < k → aquiferlaw15_ChunkReads.l0 k s off d t t.size i = some true := by
  induction r with
  | zero =>
    intro k i hi hr hk
    obtain ⟨k, rfl⟩ : ∃ m, k = m + 1 := ⟨k - 1, by omega⟩
    simp only [aquiferlaw15_ChunkReads.l0]
    rw [if_neg (by omega), works_true]
    rfl
  | succ r ih =>
    intro k i hi hr hk
    obtain ⟨k, rfl⟩ : ∃ m, k = m + 1 := ⟨k - 1, by omega⟩
    have hw : wrap64 ((i : Int) + 1) = ((i + 1 : Nat) : Int) := by unfold wrap64; omega
    have hw2 : wrap64 ((off : Int) + (d.size : Int)) = ((off + d.size : Nat) : Int) := by unfold wrap64; omega
    have hn := ih k (i + 1) (by omega) (by omega) (by omega)
    simp only [aquiferlaw15_ChunkReads.l0]
    rw [if_pos (show (i : Int) < (t.size : Int) by omega), hw, hw2, hn]
    by_cases h1 : i < s.size
    · rw [if_pos (show (i : Int) < (s.size : Int) by omega), if_pos (show (0 : Int) ≤ i by omega)]
      by_cases h2 : i < off
      · rw [if_pos (show (i : Int) < (off : Int) by omega), if_pos (show (i : Int) < (t.size : Int) by omega), if_pos (by rw [hb i (by omega) (by omega), if_pos h1])]
      · rw [if_neg (show ¬ (i : Int) < (off : Int) by omega)]
        by_cases h3 : off + d.size ≤ i
        · rw [if_pos (by omega), if_pos (by omega), if_pos (by rw [hb i (by omega) (by omega), if_pos h1])]
        · rw [if_neg (by omega)]
    · rw [if_neg (show ¬ (i : Int) < (s.size : Int) by omega)]
      by_cases h2 : i < off
      · rw [if_pos (show (i : Int) < (off : Int) by omega), if_pos (show (0 : Int) ≤ i by omega), if_pos (show (i : Int) < (t.size : Int) by omega), if_pos (by rw [hb i (by omega) (by omega), if_neg h1])]
      · rw [if_neg (show ¬ (i : Int) < (off : Int) by omega)]
        by_cases h3 : off + d.size ≤ i
        · rw [if_pos (by omega), if_pos (by omega), if_pos (by omega), if_pos (by rw [hb i (by omega) (by omega), if_neg h1])]
        · rw [if_neg (by omega)]

theorem ChunkReads : aquiferlaw15_ChunkReads.Pure := by
  intro a0 a1 a2 _ _ _
  obtain ⟨s, hs, hs1⟩ := few_some a0
  obtain ⟨d, hd, hd1⟩ := few_some a2
  unfold aquiferlaw15_ChunkReads.f
  rw [hs, hd]
  simp only [Option.bind_some]
  by_cases hok : ((s.size : Int) ≤ 4096 ∧ 0 ≤ a1 ∧ a1 ≤ 4096 ∧ (d.size : Int) ≤ 4096 - a1)
  · obtain ⟨h1, h2, h3, h4⟩ := hok
    obtain ⟨off, rfl⟩ := Int.eq_ofNat_of_zero_le h2
    obtain ⟨m, hm⟩ : ∃ m : Nat, (if s.size < off + d.size then off + d.size else s.size) = m := ⟨_, rfl⟩
    obtain ⟨t, ht⟩ : ∃ t, strOfNums (chunk_Write.row s off d) = t := ⟨_, rfl⟩
    obtain ⟨f1, f2, f3⟩ := write_facts s d t off m hm ht
    have hm1 : m ≤ 4096 ∧ off + d.size ≤ m ∧ s.size ≤ m := by split at hm <;> omega
    have e1 : chunk_Write.f s off d = some (t, 0) := by
      unfold chunk_Write.f
      rw [if_neg (by omega), if_neg (by omega), if_neg (by omega), if_neg (by omega), Int.toNat_natCast, ht]
    have e2 : chunk_Read.f t off d.size = some (d, 0) := by
      unfold chunk_Read.f
      rw [if_neg (by omega), if_neg (by omega), if_neg (by omega), if_neg (by omega), Int.toNat_natCast, Int.toNat_natCast, f3]
    refine ⟨t.size + 2, ?_⟩
    rw [e1]
    simp only [Option.bind_some]
    rw [if_pos trivial, e2]
    simp only [Option.bind_some, if_true]
    have e3 : mx (s.size : Int) (wrap64 ((off : Int) + (d.size : Int))) = (t.size : Int) := by
      have hw2 : wrap64 ((off : Int) + (d.size : Int)) = ((off + d.size : Nat) : Int) := by unfold wrap64; omega
      rw [hw2, f1]
      unfold mx
      split at hm <;> split <;> omega
    rw [e3]
    simp only [bne_self_eq_false, aquiferlaw15_ChunkReads.j0]
    rw [if_neg (by simp)]
    exact loop_true s d t off hs1 hd1 (by omega) (by omega) (fun i hi => f2 i (by omega)) t.size _ 0 (by omega) (by omega) (by omega)
  · have e1 : ∃ c, chunk_Write.f s a1 d = some (⟨#[]⟩, c) ∧ c ≠ 0 := by
      unfold chunk_Write.f
      by_cases h1 : (s.size : Int) > 4096
      · exact ⟨3, by rw [if_pos h1], by decide⟩
      rw [if_neg h1]
      by_cases h2 : a1 < 0
      · exact ⟨2, by rw [if_pos h2], by decide⟩
      rw [if_neg h2]
      by_cases h3 : a1 > 4096
      · exact ⟨3, by rw [if_pos h3], by decide⟩
      rw [if_neg h3]
      by_cases h4 : (d.size : Int) > 4096 - a1
      · exact ⟨3, by rw [if_pos h4], by decide⟩
      exact absurd ⟨by omega, by omega, by omega, by omega⟩ hok
    obtain ⟨c, e1, hc⟩ := e1
    refine ⟨0, ?_⟩
    rw [e1]
    simp only [Option.bind_some]
    rw [if_neg hc, works_true, if_pos (show (⟨#[]⟩ : ByteArray).toList = [] by decide +kernel)]
    rfl

end Go.Proofs.Ytealmnllljoolaa.Pure
