/- Chunks, joined, are the bytes; each is what its bounds say; with one more, one less, or one of another length, they are refused: chunk.Split, Join, Bounds and Count, for every string (up to the content's greatest size) and every place. No condition. -/
import Derived.Test.YtealmnllljoolaaPChunkBackx2
namespace Go.Proofs.Ytealmnllljoolaa.Pure
open Go.RowKit Go.Proofs.Ytealmnllljoolaa.PChunkBack Go.Proofs.YtealmnllljoolaaW.PrintWords Go.Proofs.YtealmnllljoolaaW.PrintLast Go.Proofs.Ytealmnllljoolaa.Copy
namespace ChunkBack

theorem works_true : aquiferlaw15_works.f = some true := by decide +kernel

theorem at_size (s : ByteArray) (j : Nat) : (chunk_Split.at_ s j).size = min 64 (s.size - 64 * j) := by
  unfold chunk_Split.at_
  rw [ByteArray.size_extract]
  omega
theorem row_get (s : ByteArray) (m j : Nat) (h : j < m) : (chunk_Split.row s m).getD j ByteArray.empty = chunk_Split.at_ s j := by
  unfold chunk_Split.row
  rw [List.getD_eq_getElem?_getD, List.getElem?_map, List.getElem?_range h]
  rfl

theorem over_append (X R Y : List Int) (n : Nat) (hn : X.length = n) : over (X ++ R) n Y = X ++ (Y ++ R.drop Y.length) := by
  subst hn
  unfold over
  simp [List.drop_append]

theorem fit_row (s : ByteArray) (m : Nat) : ∀ j, j ≤ m → chunk_Join.fit (chunk_Split.row s m) s.size j = true
  | 0, _ => rfl
  | j + 1, h => by
    rw [chunk_Join.fit, fit_row s m j (by omega), row_get s m j (by omega), at_size]
    simp

theorem row_row (s : ByteArray) (m : Nat) : ∀ j, j ≤ m → 64 * j ≤ s.size + 63 → chunk_Join.row (chunk_Split.row s m) s.size j = (bytesOf s).take (64 * j) ++ List.replicate (s.size - 64 * j) 0
  | 0, _, _ => by simp [chunk_Join.row]
  | j + 1, h, hj => by
    rw [chunk_Join.row, row_row s m j (by omega) (by omega), row_get s m j (by omega)]
    have hb : bytesOf (chunk_Split.at_ s j) = ((bytesOf s).drop (64 * j)).take 64 := by
      unfold bytesOf chunk_Split.at_
      rw [extract_list, List.map_take, List.map_drop, show 64 * j + 64 - 64 * j = 64 by omega]
    have hl : (List.take (64 * j) (bytesOf s)).length = 64 * j := by rw [List.length_take, bytesOf_length]; omega
    rw [hb, over_append _ _ _ _ hl, List.length_take, List.length_drop, bytesOf_length, List.drop_replicate, show 64 * (j + 1) = 64 * j + 64 by omega, List.take_add, List.append_assoc]
    congr 3
    omega

theorem join_row (s : ByteArray) (hs : s.size ≤ 4096) : chunk_Join.f (chunk_Split.row s ((s.size + 63) / 64)) s.size = some (s, 0) := by
  unfold chunk_Join.f
  have hl := chunk_Split.row_length s ((s.size + 63) / 64)
  rw [if_neg (by omega), Int.toNat_natCast, if_neg (by rw [hl]; omega), hl, if_pos (fit_row s _ _ (Nat.le_refl _)), row_row s _ _ (Nat.le_refl _) (by omega)]
  congr 2
  apply ba_ext
  rw [strOfNums_data, List.take_of_length_le (by rw [bytesOf_length]; omega), show s.size - 64 * ((s.size + 63) / 64) = 0 by omega, List.replicate_zero, List.append_nil, back_bytes]

theorem join_length (l : List ByteArray) (n : Nat) (hn : n ≤ 4096) (h : l.length ≠ (n + 63) / 64) : chunk_Join.f l n = some (⟨#[]⟩, 5) := by
  unfold chunk_Join.f
  rw [if_neg (by omega), Int.toNat_natCast, if_pos h]

theorem fit_at (l : List ByteArray) (n j : Nat) (h : (l.getD j ByteArray.empty).size ≠ min 64 (n - 64 * j)) : ∀ m, j < m → chunk_Join.fit l n m = false := by
  have h1 : chunk_Join.fit l n (j + 1) = false := by
    rw [chunk_Join.fit, decide_eq_false h, Bool.and_false]
  exact fun m hm => chunk_Join.fit_mono l n (j + 1) h1 m (by omega)

theorem join_short (s : ByteArray) (hs : s.size ≤ 4096) (m k : Nat) (hm : (s.size + 63) / 64 = m) (hk : k < m) (p : ByteArray) (hp : p.size + 1 = (chunk_Split.at_ s k).size) :
    chunk_Join.f ((chunk_Split.row s m).set k p) s.size = some (⟨#[]⟩, 5) := by
  have hl := chunk_Split.row_length s m
  unfold chunk_Join.f
  have h1 : ((chunk_Split.row s m).set k p).getD k ByteArray.empty = p := by
    rw [List.getD_eq_getElem?_getD, List.getElem?_set_self (by rw [hl]; exact hk)]
    rfl
  rw [if_neg (by omega), Int.toNat_natCast, if_neg (by rw [List.length_set, hl]; omega), List.length_set, hl, fit_at _ _ k (by rw [h1]; rw [at_size] at hp; omega) m hk, if_neg (by simp)]

theorem index_ok (a : Int) (m : Nat) (h1 : 1 ≤ m) (h2 : m ≤ 64) : ∃ k : Nat, Int.tmod (wrap64 (Int.tmod a m + m)) m = k ∧ k < m := by
  have hb : -(m : Int) < a.tmod m ∧ a.tmod m < m := by
    have := Int.tmod_lt_of_pos a (show (0 : Int) < m by omega)
    have := Int.lt_tmod_of_pos a (show (0 : Int) < m by omega)
    omega
  have hw : wrap64 (Int.tmod a m + m) = Int.tmod a m + m := by unfold wrap64; omega
  rw [hw, Int.tmod_eq_emod_of_nonneg (by omega)]
  obtain ⟨k, hk⟩ := Int.eq_ofNat_of_zero_le (Int.emod_nonneg (Int.tmod a m + m) (show (m : Int) ≠ 0 by omega))
  have := Int.emod_lt_of_pos (Int.tmod a m + m) (show (0 : Int) < m by omega)
  exact ⟨k, hk, by omega⟩

theorem loop_true (s : ByteArray) (a : Int) (hs : s.size ≤ 4096) (m : Nat) (hm : (s.size + 63) / 64 = m) (r : Nat) :
    ∀ (k i : Nat), i ≤ m → m - i = r → r < k → aquiferlaw15_ChunkBack.l0 k s a (chunk_Split.row s m) (chunk_Split.row s m) m i = some true := by
  induction r with
  | zero =>
    intro k i hi hr hk
    obtain ⟨k, rfl⟩ : ∃ m, k = m + 1 := ⟨k - 1, by omega⟩
    have hl := chunk_Split.row_length s m
    simp only [aquiferlaw15_ChunkBack.l0]
    rw [if_neg (by omega)]
    by_cases h0 : m = 0
    · rw [if_pos (by rw [hl]; omega), works_true]
      rfl
    · obtain ⟨q, hq, hqm⟩ := index_ok a m (by omega) (by omega)
      rw [if_neg (by rw [hl]; omega), hl, hq]
      simp only [Option.bind_some, List.nil_append, List.length_nil, hl, Int.toNat_natCast]
      have hr : rdOf ByteArray.empty (chunk_Split.row s m) (q : Int) = chunk_Split.at_ s q := row_get s m q hqm
      have hsz := at_size s q
      have hp : ((chunk_Split.at_ s q).extract 1 (chunk_Split.at_ s q).size).size + 1 = (chunk_Split.at_ s q).size := by rw [ByteArray.size_extract]; omega
      rw [if_pos (by omega), if_pos (by omega), if_pos (by omega), hr, if_pos (by omega), join_short s hs m q hm hqm _ hp]
      simp only [Option.bind_some]
      rw [if_pos (by omega), if_pos (by omega), join_length _ _ hs (by rw [List.length_append, hl]; simp; omega)]
      simp only [Option.bind_some]
      rw [if_pos (by omega), join_length _ _ hs (by rw [List.length_drop, hl]; omega)]
      simp only [Option.bind_some, if_true]
      rw [works_true]
      rfl
  | succ r ih =>
    intro k i hi hr hk
    obtain ⟨k, rfl⟩ : ∃ m, k = m + 1 := ⟨k - 1, by omega⟩
    have hl := chunk_Split.row_length s m
    have hw : wrap64 ((i : Int) + 1) = ((i + 1 : Nat) : Int) := by unfold wrap64; omega
    have hn := ih k (i + 1) (by omega) (by omega) (by omega)
    have hr1 : rdOf ByteArray.empty (chunk_Split.row s m) (i : Int) = chunk_Split.at_ s i := row_get s m i (by omega)
    have hsz := at_size s i
    simp only [aquiferlaw15_ChunkBack.l0]
    rw [if_pos (by omega), if_pos (by omega), if_pos (by rw [hl]; omega), chunk_Join.bounds s.size i hs (by omega)]
    simp only [Option.bind_some]
    rw [if_pos (by omega), if_pos (by omega), if_pos (by omega), Int.toNat_natCast, Int.toNat_natCast, hr1]
    have he : chunk_Split.at_ s i = s.extract (64 * i) (min (64 * i + 64) s.size) := by
      apply ba_ext
      unfold chunk_Split.at_
      rw [extract_list, extract_list]
      rcases Nat.le_total (64 * i + 64) s.size with h | h
      · rw [Nat.min_eq_left h]
      · rw [Nat.min_eq_right h, List.take_of_length_le (by rw [List.length_drop, data_length]; omega), List.take_of_length_le (by rw [List.length_drop, data_length]; omega)]
    have hne : ¬ (chunk_Split.at_ s i).toList = [] := by
      intro hc
      have : (chunk_Split.at_ s i).toList.length = 0 := by rw [hc]; rfl
      rw [ByteArray.toList_eq, data_length] at this
      omega
    rw [if_pos (by rw [← he]), if_neg hne, hw]
    exact hn
end ChunkBack
open ChunkBack in
theorem ChunkBack : aquiferlaw15_ChunkBack.Pure := by
  intro a0 a1 _ _
  unfold aquiferlaw15_ChunkBack.f
  have hm : 0 ≤ mn (a0.size : Int) 4096 ∧ mn (a0.size : Int) 4096 ≤ a0.size ∧ mn (a0.size : Int) 4096 ≤ 4096 := by
    unfold mn
    split <;> omega
  refine ⟨70, ?_⟩
  rw [if_pos hm.1, if_pos hm.2.1]
  obtain ⟨s, hs⟩ : ∃ s, a0.extract 0 (mn (a0.size : Int) 4096).toNat = s := ⟨_, rfl⟩
  have hs4 : s.size ≤ 4096 := by rw [← hs, ByteArray.size_extract]; omega
  rw [hs]
  have e1 : chunk_Split.f s = some (chunk_Split.row s ((s.size + 63) / 64)) := by
    unfold chunk_Split.f
    rw [if_pos (by omega)]
  have hl := chunk_Split.row_length s ((s.size + 63) / 64)
  rw [e1]
  simp only [Option.bind_some]
  rw [join_row s hs4]
  simp only [Option.bind_some, if_true]
  rw [chunk_Join.count s.size hs4]
  simp only [Option.bind_some, aquiferlaw15_ChunkBack.j0, hl, bne_self_eq_false]
  rw [if_neg (by simp)]
  exact loop_true s a1 hs4 _ rfl ((s.size + 63) / 64) _ 0 (by omega) (by omega) (by omega)

end Go.Proofs.Ytealmnllljoolaa.Pure
