/- Any bytes are written to, cut, lengthened and read as the reference says, or refused: chunk.Write, Truncate and Read beside aquiferref15's, for every two strings and every place. No condition. -/
import Derived.Test.YtealmnllljoolaaPChunkWritesx2
namespace Go.Proofs.Ytealmnllljoolaa.Pure
open Go.RowKit Go.Proofs.Ytealmnllljoolaa.PChunkWrites Go.Proofs.YtealmnllljoolaaW.PrintWords Go.Proofs.YtealmnllljoolaaW.PrintLast Go.Proofs.Ytealmnllljoolaa.Copy
namespace ChunkWrites

theorem few_some (s : ByteArray) : ∃ t, aquiferlaw15_few.f s = some t ∧ t.size ≤ 4200 := by
  unfold aquiferlaw15_few.f
  have hm : 0 ≤ mn (s.size : Int) 4200 ∧ mn (s.size : Int) 4200 ≤ s.size ∧ mn (s.size : Int) 4200 ≤ 4200 := by
    unfold mn
    split <;> omega
  rw [if_pos hm.1, if_pos hm.2.1]
  exact ⟨_, rfl, by simp; omega⟩

theorem works_true : aquiferlaw15_works.f = some true := by decide +kernel

/-- What stands behind noughts up to a length. -/
theorem noughts_some (n : Nat) (hn : n ≤ 5000) (r : Nat) : ∀ (k : Nat) (s : ByteArray), n - s.size = r → r < k → ∃ t, aquiferref15_noughts.l0 k s n = some t ∧ t.data.toList = s.data.toList ++ List.replicate r 0 := by
  induction r with
  | zero =>
    intro k s hs hk
    obtain ⟨k, rfl⟩ : ∃ m, k = m + 1 := ⟨k - 1, by omega⟩
    exact ⟨s, by simp only [aquiferref15_noughts.l0]; rw [if_neg (by omega)], by simp⟩
  | succ r ih =>
    intro k s hs hk
    obtain ⟨k, rfl⟩ : ∃ m, k = m + 1 := ⟨k - 1, by omega⟩
    have h1 : (s ++ (⟨#[0]⟩ : ByteArray)).size = s.size + 1 := by rw [ByteArray.size_append]; rfl
    have h2 : (s ++ (⟨#[0]⟩ : ByteArray)).data.toList = s.data.toList ++ [0] := by rw [ByteArray.data_append, Array.toList_append]
    obtain ⟨t, ht, hl⟩ := ih k (s ++ (⟨#[0]⟩ : ByteArray)) (by omega) (by omega)
    refine ⟨t, ?_, ?_⟩
    · simp only [aquiferref15_noughts.l0]
      rw [if_pos (by omega), if_pos (by omega)]
      exact ht
    · rw [hl, h2, List.append_assoc]
      rfl

theorem write_list (s d : List UInt8) (off m : Nat) (hm : (if s.length < off + d.length then off + d.length else s.length) = m) :
    over (over (List.replicate m 0) 0 s) off d = (s ++ List.replicate (off - s.length) 0).take off ++ (d ++ (s ++ List.replicate (off - s.length) 0).drop (off + d.length)) := by
  have h1 : s.length ≤ m := by split at hm <;> omega
  have h2 : off + d.length ≤ m := by split at hm <;> omega
  have e1 : over (List.replicate m (0 : UInt8)) 0 s = s ++ List.replicate (m - s.length) 0 := by unfold over; simp
  have e2 : (s ++ List.replicate (m - s.length) (0 : UInt8)).take off = (s ++ List.replicate (off - s.length) 0).take off := by
    rw [List.take_append, List.take_append, List.take_replicate, List.take_replicate]
    congr 2
    omega
  have e3 : (s ++ List.replicate (m - s.length) (0 : UInt8)).drop (off + d.length) = (s ++ List.replicate (off - s.length) 0).drop (off + d.length) := by
    rw [List.drop_append, List.drop_append, List.drop_replicate, List.drop_replicate]
    congr 2
    split at hm <;> omega
  unfold over at e1
  unfold over
  rw [e1, e2, e3]

theorem write_same (s d : ByteArray) (a : Int) (k : Nat) (hk : 5000 ≤ k) : aquiferref15_Write.f k s a d = chunk_Write.f s a d := by
  unfold aquiferref15_Write.f chunk_Write.f
  by_cases h1 : (s.size : Int) > 4096
  · rw [if_pos h1, if_pos h1]
  rw [if_neg h1, if_neg h1]
  by_cases h2 : a < 0
  · rw [if_pos h2, if_pos h2]
  rw [if_neg h2, if_neg h2]
  by_cases h3 : a > 4096
  · rw [if_pos h3, if_pos h3]
  rw [if_neg h3, if_neg h3]
  by_cases h4 : (d.size : Int) > 4096 - a
  · rw [if_pos h4, if_pos h4]
  rw [if_neg h4, if_neg h4]
  obtain ⟨off, rfl⟩ := Int.eq_ofNat_of_zero_le (show 0 ≤ a by omega)
  obtain ⟨t, ht, hl⟩ := noughts_some off (by omega) (off - s.size) k s rfl (by omega)
  have hts : t.size = s.size + (off - s.size) := by rw [← data_length, hl, List.length_append, List.length_replicate, data_length]
  show (aquiferref15_noughts.l0 k s off).bind _ = _
  rw [ht]
  simp only [Option.bind_some, Int.toNat_natCast]
  rw [if_pos (by omega), if_pos (by omega)]
  congr 2
  apply ba_ext
  have hz : (if off + d.size < t.size then t.extract (off + d.size) t.size else ⟨#[]⟩ : ByteArray).data.toList = t.data.toList.drop (off + d.size) := by
    split
    · rw [extract_list, List.take_of_length_le (by rw [List.length_drop, data_length]; omega)]
    · rw [List.drop_eq_nil_of_le (by rw [data_length]; omega)]
  rw [ByteArray.data_append, Array.toList_append, ByteArray.data_append, Array.toList_append, hz, extract_list, strOfNums_data]
  unfold chunk_Write.row
  rw [over_map, over_map, back_bytes, back_bytes]
  have hw := write_list s.data.toList d.data.toList off _ rfl
  simp only [data_length] at hw
  simp only [List.map_replicate, Int.toNat_zero]
  show _ = over (over (List.replicate _ (0 : UInt8)) 0 s.data.toList) off d.data.toList
  rw [hw, hl]
  simp

theorem truncate_same (s : ByteArray) (a : Int) (k : Nat) (hk : 5000 ≤ k) : aquiferref15_Truncate.f k s a = chunk_Truncate.f s a := by
  unfold aquiferref15_Truncate.f chunk_Truncate.f
  by_cases h1 : (s.size : Int) > 4096
  · rw [if_pos h1, if_pos h1]
  rw [if_neg h1, if_neg h1]
  by_cases h2 : a < 0
  · rw [if_pos h2, if_pos h2]
  rw [if_neg h2, if_neg h2]
  by_cases h3 : a > 4096
  · rw [if_pos h3, if_pos h3]
  rw [if_neg h3, if_neg h3]
  obtain ⟨n, rfl⟩ := Int.eq_ofNat_of_zero_le (show 0 ≤ a by omega)
  obtain ⟨t, ht, hl⟩ := noughts_some n (by omega) (n - s.size) k s rfl (by omega)
  have hts : t.size = s.size + (n - s.size) := by rw [← data_length, hl, List.length_append, List.length_replicate, data_length]
  show (aquiferref15_noughts.l0 k s n).bind _ = _
  rw [ht]
  simp only [Option.bind_some, Int.toNat_natCast]
  rw [if_pos (by omega), if_pos (by omega)]
  congr 2
  apply ba_ext
  rw [strOfNums_data, over_map, List.map_take, back_bytes, extract_list, hl]
  unfold over
  simp only [List.map_replicate, Int.toNat_zero, List.drop_zero, Nat.sub_zero, List.take_zero, List.nil_append, List.length_take, data_length]
  rw [List.take_append, List.take_replicate, List.drop_replicate, data_length]
  have e1 : List.take n s.data.toList = List.take (min s.size n) s.data.toList := by
    rcases Nat.le_total s.size n with h | h
    · rw [Nat.min_eq_left h, List.take_of_length_le (by rw [data_length]; omega), List.take_of_length_le (by rw [data_length]; omega)]
    · rw [Nat.min_eq_right h]
  rw [e1]
  congr 2
  omega

theorem read_loop (s : ByteArray) (off n : Nat) (hs : s.size ≤ 4200) (r : Nat) :
    ∀ (k : Nat) (x : ByteArray) (i : Nat), off ≤ i → i ≤ min (off + n) s.size → min (off + n) s.size - i = r → r < k → x.data.toList = (s.data.toList.drop off).take (i - off) →
      ∃ y, aquiferref15_Read.l0 k s off n x i = some (y, 0) ∧ y.data.toList = (s.data.toList.drop off).take (min (off + n) s.size - off) := by
  induction r with
  | zero =>
    intro k x i h1 h2 hr hk hx
    obtain ⟨k, rfl⟩ : ∃ m, k = m + 1 := ⟨k - 1, by omega⟩
    refine ⟨x, ?_, by rw [hx]; congr 1; omega⟩
    simp only [aquiferref15_Read.l0]
    by_cases hi : i < s.size
    · have hw : wrap64 ((i : Int) - (off : Int)) = (i : Int) - (off : Int) := by unfold wrap64; omega
      rw [if_pos (by omega), hw, if_neg (by omega)]
    · rw [if_neg (by omega)]
  | succ r ih =>
    intro k x i h1 h2 hr hk hx
    obtain ⟨k, rfl⟩ : ∃ m, k = m + 1 := ⟨k - 1, by omega⟩
    have hw : wrap64 ((i : Int) - (off : Int)) = (i : Int) - (off : Int) := by unfold wrap64; omega
    have hw1 : wrap64 ((i : Int) + 1) = ((i + 1 : Nat) : Int) := by unfold wrap64; omega
    have hxs : x.size = i - off := by rw [← data_length, hx, List.length_take, List.length_drop, data_length]; omega
    have hz : (s.extract i (i + 1)).data.toList = (s.data.toList.drop i).take 1 := by rw [extract_list]; congr 1; omega
    have hzs : (s.extract i (i + 1)).size = 1 := by rw [← data_length, hz, List.length_take, List.length_drop, data_length]; omega
    obtain ⟨y, hy, hl⟩ := ih k (x ++ s.extract i (i + 1)) (i + 1) (by omega) (by omega) (by omega) (by omega) (by
      rw [ByteArray.data_append, Array.toList_append, hx, hz, show i + 1 - off = (i - off) + 1 by omega, List.take_add, List.drop_drop, show off + (i - off) = i by omega])
    refine ⟨y, ?_, hl⟩
    simp only [aquiferref15_Read.l0]
    rw [if_pos (by omega), hw, if_pos (by omega), if_pos (by omega), hw1, if_pos (by omega), if_pos (by omega), Int.toNat_natCast, Int.toNat_natCast, if_pos (by rw [hzs]; omega)]
    exact hy

theorem read_same (s d : ByteArray) (a : Int) (hs : s.size ≤ 4200) (k : Nat) (hk : 5000 ≤ k) : aquiferref15_Read.f k s a d.size = chunk_Read.f s a d.size := by
  obtain ⟨k, rfl⟩ : ∃ m, k = m + 1 := ⟨k - 1, by omega⟩
  unfold aquiferref15_Read.f chunk_Read.f
  simp only [aquiferref15_Read.j0]
  by_cases h1 : (s.size : Int) > 4096
  · rw [if_pos h1, if_pos h1]
  rw [if_neg h1, if_neg h1]
  by_cases h2 : a < 0
  · rw [if_pos h2, if_pos h2]; rfl
  have h3 : ¬ (d.size : Int) < 0 := by omega
  rw [if_neg h2, if_neg h2, if_neg h3]
  by_cases h4 : a > (s.size : Int)
  · rw [if_pos (decide_eq_true h4), if_pos h4, if_neg h3]
  rw [if_neg (by rw [decide_eq_false h4]; exact Bool.false_ne_true), if_neg h4]
  obtain ⟨off, rfl⟩ := Int.eq_ofNat_of_zero_le (show 0 ≤ a by omega)
  obtain ⟨y, hy, hl⟩ := read_loop s off d.size hs (min (off + d.size) s.size - off) k ⟨#[]⟩ off (Nat.le_refl _) (by omega) rfl (by omega) (by simp)
  rw [hy]
  congr 2
  apply ba_ext
  rw [hl, extract_list, extract_list]
  simp only [Int.toNat_natCast, List.drop_zero, Nat.sub_zero]
  rw [List.take_take]
  congr 1
  omega

theorem write_some (s d : ByteArray) (a : Int) : ∃ r, chunk_Write.f s a d = some r := by
  unfold chunk_Write.f
  repeat' split
  all_goals exact ⟨_, rfl⟩
theorem truncate_some (s : ByteArray) (a : Int) : ∃ r, chunk_Truncate.f s a = some r := by
  unfold chunk_Truncate.f
  repeat' split
  all_goals exact ⟨_, rfl⟩
theorem read_some (s : ByteArray) (a b : Int) : ∃ r, chunk_Read.f s a b = some r := by
  unfold chunk_Read.f
  repeat' split
  all_goals exact ⟨_, rfl⟩
end ChunkWrites
open ChunkWrites in
theorem ChunkWrites : aquiferlaw15_ChunkWrites.Pure := by
  intro a0 a1 a2 _ _ _
  obtain ⟨s, hs, hs1⟩ := few_some a0
  obtain ⟨d, hd, hd1⟩ := few_some a2
  refine ⟨5000, ?_⟩
  unfold aquiferlaw15_ChunkWrites.f
  obtain ⟨x, hx⟩ := write_some s d a1
  obtain ⟨y, hy⟩ := truncate_some s a1
  obtain ⟨z, hz⟩ := read_some s a1 d.size
  rw [hs, hd]
  simp only [Option.bind_some]
  rw [write_same s d a1 _ (Nat.le_refl _), truncate_same s a1 _ (Nat.le_refl _), read_same s d a1 hs1 _ (Nat.le_refl _), hx, hy, hz, works_true]
  simp only [Option.bind_some, if_true]

end Go.Proofs.Ytealmnllljoolaa.Pure
