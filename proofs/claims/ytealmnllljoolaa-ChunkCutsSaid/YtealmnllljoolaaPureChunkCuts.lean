/- Any string has the reference's chunks, any size its number of them and their bounds, and any texts are joined as the reference joins them, or refused: chunk.Split, Count, Bounds and Join beside aquiferref15's. No condition. The pure part. -/
import Derived.Test.YtealmnllljoolaaPChunkCutsx13
namespace Go.Proofs.Ytealmnllljoolaa.Pure
open Go.RowKit Go.Proofs.Ytealmnllljoolaa.PChunkCuts Go.Proofs.YtealmnllljoolaaW.PrintWords Go.Proofs.YtealmnllljoolaaW.PrintLast Go.Proofs.Ytealmnllljoolaa.Copy
namespace ChunkCuts

theorem few_some (s : ByteArray) : ∃ t, aquiferlaw15_few.f s = some t ∧ t.size ≤ 4200 := by
  unfold aquiferlaw15_few.f
  have hm : 0 ≤ mn (s.size : Int) 4200 ∧ mn (s.size : Int) 4200 ≤ s.size ∧ mn (s.size : Int) 4200 ≤ 4200 := by
    unfold mn
    split <;> omega
  rw [if_pos hm.1, if_pos hm.2.1]
  exact ⟨_, rfl, by simp; omega⟩
theorem works_true : aquiferlaw15_works.f = some true := by decide +kernel
theorem bounds_of {a : Int} (h : (Lit.int .i64 a).wf = true) : -9223372036854775808 ≤ a ∧ a ≤ 9223372036854775807 := by
  simp [Lit.wf, IntKind.min, IntKind.max, IntKind.signed, IntKind.bits] at h
  omega

/-! ### the number of chunks, and their bounds -/
def cnt (x : Int) : Int := if x < 1 then 0 else (x - 1) / 64 + 1
theorem count_some (x : Int) (h0 : -9223372036854775808 ≤ x) (h1 : x ≤ 9223372036854775807) : chunk_Count.f x = some (cnt x) := by
  unfold chunk_Count.f cnt
  by_cases h : x < 1
  · rw [if_pos h, if_pos h]
  · rw [if_neg h, if_neg h]
    have e1 : wrap64 (x - 1) = x - 1 := by unfold wrap64; omega
    rw [e1, Int.tdiv_eq_ediv_of_nonneg (by omega)]
    congr 1
    unfold wrap64
    omega
theorem count_same (x : Int) (h0 : -9223372036854775808 ≤ x) (h1 : x ≤ 9223372036854775807) : aquiferref15_Count.f x = some (cnt x) := by
  unfold aquiferref15_Count.f cnt
  by_cases h : x < 1
  · rw [if_pos h, if_pos h]
  · rw [if_neg h, if_neg h, Int.tdiv_eq_ediv_of_nonneg (by omega), Int.tmod_eq_emod_of_nonneg (by omega)]
    have e1 : wrap64 (x / 64) = x / 64 := by unfold wrap64; omega
    rw [e1]
    split
    · congr 1
      unfold wrap64
      omega
    · congr 1
      omega
theorem bounds_some (x y : Int) (h0 : -9223372036854775808 ≤ x) : ∃ r, chunk_Bounds.f x y = some r ∧ ∀ k, aquiferref15_Bounds.f (k + 1) x y = some r := by
  unfold chunk_Bounds.f aquiferref15_Bounds.f
  by_cases c1 : x > 4096
  · rw [if_pos c1]
    exact ⟨_, rfl, fun k => by rw [if_pos c1]; rfl⟩
  rw [if_neg c1]
  by_cases c2 : y < 0
  · rw [if_pos c2]
    exact ⟨_, rfl, fun k => by rw [if_neg c1, if_pos c2]; rfl⟩
  rw [if_neg c2, count_some x h0 (by omega)]
  simp only [Option.bind_some]
  have hc : cnt x ≤ 64 := by unfold cnt; split <;> omega
  by_cases c3 : y ≥ cnt x
  · rw [if_pos c3]
    exact ⟨_, rfl, fun k => by
      rw [if_neg c1, if_neg c2, count_same x h0 (by omega)]
      simp only [Option.bind_some, aquiferref15_Bounds.j0]
      rw [if_pos (decide_eq_true c3)]⟩
  rw [if_neg c3]
  refine ⟨_, rfl, fun k => ?_⟩
  rw [if_neg c1, if_neg c2, count_same x h0 (by omega)]
  simp only [Option.bind_some, aquiferref15_Bounds.j0]
  rw [if_neg (by rw [decide_eq_false c3]; exact Bool.false_ne_true)]
  have e1 : wrap64 (y * 64) = wrap64 (64 * y) := by rw [Int.mul_comm]
  rw [e1]
  unfold mn
  by_cases c4 : wrap64 (wrap64 (64 * y) + 64) > x
  · rw [if_pos c4, if_pos c4]
  · rw [if_neg c4, if_neg c4]

/-! ### chunks -/
def ch (s : ByteArray) : List ByteArray := chunk_Split.row s ((s.size + 63) / 64)
theorem ch_length (s : ByteArray) : (ch s).length = (s.size + 63) / 64 := chunk_Split.row_length s _
theorem row_get (s : ByteArray) (m j : Nat) (h : j < m) : (chunk_Split.row s m)[j]? = some (chunk_Split.at_ s j) := by
  unfold chunk_Split.row
  rw [List.getElem?_map, List.getElem?_range h]
  rfl
theorem at_list (s : ByteArray) (j : Nat) : (chunk_Split.at_ s j).data.toList = (s.data.toList.drop (64 * j)).take 64 := by
  unfold chunk_Split.at_
  rw [extract_list]
  congr 1
  omega
theorem at_size (s : ByteArray) (j : Nat) : (chunk_Split.at_ s j).size = min 64 (s.size - 64 * j) := by
  unfold chunk_Split.at_
  rw [ByteArray.size_extract]
  omega

/-- The chunks of what lies ahead of place i. -/
def chp (s : ByteArray) (i : Nat) : List ByteArray := (List.range ((i + 63) / 64)).map fun j => s.extract (64 * j) (min (64 * j + 64) i)
theorem chp_length (s : ByteArray) (i : Nat) : (chp s i).length = (i + 63) / 64 := by unfold chp; simp
theorem chp_get (s : ByteArray) (i j : Nat) (h : j < (i + 63) / 64) : (chp s i)[j]? = some (s.extract (64 * j) (min (64 * j + 64) i)) := by
  unfold chp
  rw [List.getElem?_map, List.getElem?_range h]
  rfl
theorem chp_end (s : ByteArray) : chp s s.size = ch s := by
  unfold chp ch chunk_Split.row
  apply List.map_congr_left
  intro j _
  apply ba_ext
  unfold chunk_Split.at_
  rw [extract_list, extract_list]
  rcases Nat.le_total (64 * j + 64) s.size with h | h
  · rw [Nat.min_eq_left h]
  · rw [Nat.min_eq_right h, List.take_of_length_le (by rw [List.length_drop, data_length]; omega), List.take_of_length_le (by rw [List.length_drop, data_length]; omega)]
theorem empty_append (z : ByteArray) : (⟨#[]⟩ : ByteArray) ++ z = z := by
  apply ba_ext
  rw [ByteArray.data_append, Array.toList_append]
  rfl
theorem chp_new (s : ByteArray) (i : Nat) (h : i % 64 = 0) : chp s (i + 1) = chp s i ++ [s.extract i (i + 1)] := by
  apply List.ext_getElem?
  intro j
  rw [List.getElem?_append, chp_length]
  by_cases h1 : j < (i + 63) / 64
  · rw [if_pos h1, chp_get _ _ _ (by omega), chp_get _ _ _ h1, Nat.min_eq_left (by omega), Nat.min_eq_left (by omega)]
  · rw [if_neg h1]
    by_cases h2 : j = (i + 63) / 64
    · rw [chp_get _ _ _ (by omega), show j - (i + 63) / 64 = 0 by omega, Nat.min_eq_right (by omega), show 64 * j = i by omega]
      rfl
    · rw [List.getElem?_eq_none (by rw [chp_length]; omega), List.getElem?_eq_none (by simp; omega)]
theorem chp_more (s : ByteArray) (i : Nat) (h : i % 64 ≠ 0) : chp s (i + 1) = (chp s i).set (i / 64) (s.extract (64 * (i / 64)) i ++ s.extract i (i + 1)) := by
  apply List.ext_getElem?
  intro j
  rw [List.getElem?_set, chp_length]
  by_cases h1 : i / 64 = j
  · rw [if_pos h1, if_pos (by omega), chp_get _ _ _ (by omega)]
    congr 1
    apply ba_ext
    rw [ByteArray.data_append, Array.toList_append, extract_list, extract_list, extract_list, Nat.min_eq_right (by omega), ← h1, show i + 1 - 64 * (i / 64) = (i - 64 * (i / 64)) + 1 by omega, List.take_add, List.drop_drop, show 64 * (i / 64) + (i - 64 * (i / 64)) = i by omega, show i + 1 - i = 1 by omega]
  · rw [if_neg h1]
    by_cases h2 : j < (i + 63) / 64
    · rw [chp_get _ _ _ (by omega), chp_get _ _ _ h2, Nat.min_eq_left (by omega), Nat.min_eq_left (by omega)]
    · rw [List.getElem?_eq_none (by rw [chp_length]; omega), List.getElem?_eq_none (by rw [chp_length]; omega)]

theorem split_loop (s : ByteArray) (hs : s.size ≤ 9000) (r : Nat) : ∀ (k i : Nat), i ≤ s.size → s.size - i = r → r < k → aquiferref15_Split.l0 k s (chp s i) i = some (ch s) := by
  induction r with
  | zero =>
    intro k i hi hr hk
    obtain ⟨k, rfl⟩ : ∃ m, k = m + 1 := ⟨k - 1, by omega⟩
    obtain rfl : i = s.size := by omega
    simp only [aquiferref15_Split.l0]
    rw [if_neg (by omega), chp_end]
  | succ r ih =>
    intro k i hi hr hk
    obtain ⟨k, rfl⟩ : ∃ m, k = m + 1 := ⟨k - 1, by omega⟩
    have hw : wrap64 ((i : Int) + 1) = ((i + 1 : Nat) : Int) := by unfold wrap64; omega
    have hn := ih k (i + 1) (by omega) (by omega) (by omega)
    have hl := chp_length s i
    have hz : (s.extract i (i + 1)).size = 1 := by rw [ByteArray.size_extract]; omega
    simp only [aquiferref15_Split.l0]
    rw [if_pos (by omega), Int.tmod_eq_emod_of_nonneg (by omega), hw]
    by_cases h64 : i % 64 = 0
    · rw [if_pos (by omega), if_pos (by omega)]
      simp only [Option.bind_some]
      have hyl : (chp s i ++ [(⟨#[]⟩ : ByteArray)]).length = (i + 63) / 64 + 1 := by rw [List.length_append, hl]; rfl
      have hw1 : wrap64 (((chp s i ++ [(⟨#[]⟩ : ByteArray)]).length : Int) - 1) = (((i + 63) / 64 : Nat) : Int) := by rw [hyl]; unfold wrap64; omega
      have hrd : rdOf ByteArray.empty (chp s i ++ [(⟨#[]⟩ : ByteArray)]) (((i + 63) / 64 : Nat) : Int) = ⟨#[]⟩ := by
        unfold rdOf
        rw [Int.toNat_natCast, List.getD_eq_getElem?_getD, List.getElem?_append_right (by omega), hl, Nat.sub_self]
        rfl
      have hset : (chp s i ++ [(⟨#[]⟩ : ByteArray)]).set ((i + 63) / 64) (s.extract i (i + 1)) = chp s i ++ [s.extract i (i + 1)] := by
        rw [List.set_append_right _ _ (by omega), hl, Nat.sub_self]
        rfl
      rw [hw1, if_pos (by omega), if_pos (by omega), if_pos (by omega), if_pos (by omega), if_pos (by omega), hrd, Int.toNat_natCast, Int.toNat_natCast, Int.toNat_natCast, if_pos (by rw [hz]; decide), empty_append, hset, ← chp_new s i h64]
      exact hn
    · have hw1 : wrap64 (((chp s i).length : Int) - 1) = ((i / 64 : Nat) : Int) := by rw [hl]; unfold wrap64; omega
      have hrd : rdOf ByteArray.empty (chp s i) ((i / 64 : Nat) : Int) = s.extract (64 * (i / 64)) i := by
        unfold rdOf
        rw [Int.toNat_natCast, List.getD_eq_getElem?_getD, chp_get _ _ _ (by omega), Nat.min_eq_right (by omega)]
        rfl
      rw [if_neg (by omega), hw1, if_pos (by omega), if_pos (by omega), if_pos (by omega), if_pos (by omega), if_pos (by omega), hrd, Int.toNat_natCast, Int.toNat_natCast, Int.toNat_natCast, if_pos (by rw [hz, ByteArray.size_extract]; omega), ← chp_more s i h64]
      exact hn
theorem split_same (s : ByteArray) (hs : s.size ≤ 9000) (k : Nat) (hk : 9000 < k) : aquiferref15_Split.f k s = some (ch s) := by
  have h := split_loop s hs s.size k 0 (by omega) (by omega) (by omega)
  exact h
theorem split_some (s : ByteArray) (hs : s.size ≤ 9000) : chunk_Split.f s = some (ch s) := by
  unfold chunk_Split.f
  rw [if_pos (by omega)]
  rfl

/-! ### lists of texts -/
theorem texts_loop (x y : List ByteArray) (hl : x.length = y.length) (hx : x.length ≤ 9000) (r : Nat) : ∀ (k i : Nat), i ≤ x.length → x.length - i = r → r < k → x.take i = y.take i → aquiferref15_SameTexts.l0 k x y i = some (decide (x = y)) := by
  induction r with
  | zero =>
    intro k i hi hr hk ht
    obtain ⟨k, rfl⟩ : ∃ m, k = m + 1 := ⟨k - 1, by omega⟩
    simp only [aquiferref15_SameTexts.l0]
    rw [List.take_of_length_le (by omega), List.take_of_length_le (by omega)] at ht
    rw [if_neg (by omega), decide_eq_true ht]
  | succ r ih =>
    intro k i hi hr hk ht
    obtain ⟨k, rfl⟩ : ∃ m, k = m + 1 := ⟨k - 1, by omega⟩
    have hw : wrap64 ((i : Int) + 1) = ((i + 1 : Nat) : Int) := by unfold wrap64; omega
    have gx : x.getD i ByteArray.empty = x[i]'(by omega) := by rw [List.getD_eq_getElem?_getD, List.getElem?_eq_getElem (by omega)]; rfl
    have gy : y.getD i ByteArray.empty = y[i]'(by omega) := by rw [List.getD_eq_getElem?_getD, List.getElem?_eq_getElem (by omega)]; rfl
    simp only [aquiferref15_SameTexts.l0]
    unfold rdOf
    rw [if_pos (by omega), if_pos (by omega), if_pos (by omega), hw, Int.toNat_natCast, gx, gy]
    by_cases h : (x[i]'(by omega)).toList = (y[i]'(by omega)).toList
    · rw [if_pos h]
      rw [ByteArray.toList_eq, ByteArray.toList_eq] at h
      exact ih k (i + 1) (by omega) (by omega) (by omega) (by rw [List.take_succ_eq_append_getElem (by omega), List.take_succ_eq_append_getElem (by omega), ht, ba_ext h])
    · rw [if_neg h]
      congr 1
      symm
      rw [decide_eq_false_iff_not]
      rintro rfl
      exact h rfl
theorem texts_some (x y : List ByteArray) (hx : x.length ≤ 9000) (k : Nat) (hk : x.length < k) : aquiferref15_SameTexts.f k x y = some (decide (x = y)) := by
  unfold aquiferref15_SameTexts.f
  by_cases h : x.length = y.length
  · rw [if_pos (by omega)]
    exact texts_loop x y h hx x.length k 0 (by omega) (by omega) (by omega) rfl
  · rw [if_neg (by omega)]
    congr 1
    symm
    rw [decide_eq_false_iff_not]
    rintro rfl
    exact h rfl

/-! ### joining -/
def catL (l : List ByteArray) : Nat → List UInt8
  | 0 => []
  | j + 1 => catL l j ++ (l.getD j ByteArray.empty).data.toList
theorem cat_length (l : List ByteArray) (n : Nat) : ∀ j, chunk_Join.fit l n j = true → j ≤ (n + 63) / 64 → (catL l j).length = min (64 * j) n
  | 0, _, _ => by simp [catL]
  | j + 1, h, hj => by
    simp only [chunk_Join.fit, Bool.and_eq_true, decide_eq_true_eq] at h
    rw [catL, List.length_append, cat_length l n j h.1 (by omega), data_length, h.2]
    omega
theorem over_append (X R Y : List Int) (n : Nat) (hn : X.length = n) : over (X ++ R) n Y = X ++ (Y ++ R.drop Y.length) := by
  subst hn
  unfold over
  simp [List.drop_append]
theorem row_cat (l : List ByteArray) (n : Nat) : ∀ j, chunk_Join.fit l n j = true → j ≤ (n + 63) / 64 → chunk_Join.row l n j = (catL l j).map (fun b => (b.toNat : Int)) ++ List.replicate (n - min (64 * j) n) 0
  | 0, _, _ => by simp [chunk_Join.row, catL]
  | j + 1, h, hj => by
    have hh := h
    simp only [chunk_Join.fit, Bool.and_eq_true, decide_eq_true_eq] at h
    rw [chunk_Join.row, row_cat l n j h.1 (by omega), over_append _ _ _ _ (by rw [List.length_map, cat_length l n j h.1 (by omega)]; omega), catL, List.map_append, List.append_assoc, bytesOf_length, List.drop_replicate, h.2]
    congr 3
    omega
theorem cat_at (l : List ByteArray) (n j : Nat) : ∀ q, j < q → q ≤ (n + 63) / 64 → chunk_Join.fit l n q = true → ((catL l q).drop (64 * j)).take 64 = (l.getD j ByteArray.empty).data.toList := by
  intro q
  induction q with
  | zero => intro h; omega
  | succ q ih =>
    intro h hq hf
    have hh := hf
    simp only [chunk_Join.fit, Bool.and_eq_true, decide_eq_true_eq] at hf
    have hlen := cat_length l n q hf.1 (by omega)
    rcases Nat.eq_or_lt_of_le (Nat.le_of_lt_succ h) with rfl | hlt
    · rw [catL, List.drop_append, List.drop_eq_nil_of_le (by omega), hlen, show 64 * j - min (64 * j) n = 0 by omega, List.drop_zero, List.nil_append, List.take_of_length_le (by rw [data_length, hf.2]; omega)]
    · rw [catL, List.drop_append, List.take_append, List.length_drop, hlen, show 64 - (min (64 * q) n - 64 * j) = 0 by omega, List.take_zero, List.append_nil]
      exact ih hlt (by omega) hf.1
/-- Texts that fit are the chunks of what they come to. -/
theorem fit_ch (l : List ByteArray) (n m : Nat) (hm : (n + 63) / 64 = m) (hl : l.length = m) (hf : chunk_Join.fit l n m = true) : ∃ t : ByteArray, t.size = n ∧ ch t = l := by
  have hlen := cat_length l n m hf (by omega)
  refine ⟨⟨(catL l m).toArray⟩, ?_, ?_⟩
  · show (catL l m).toArray.size = n
    rw [List.size_toArray, hlen]
    omega
  · have hts : (⟨(catL l m).toArray⟩ : ByteArray).size = n := by
      show (catL l m).toArray.size = n
      rw [List.size_toArray, hlen]
      omega
    unfold ch
    rw [hts, hm]
    apply List.ext_getElem?
    intro j
    by_cases hj : j < m
    · rw [row_get _ _ _ hj, List.getElem?_eq_getElem (by omega)]
      congr 1
      apply ba_ext
      rw [at_list]
      show ((catL l m).drop (64 * j)).take 64 = _
      rw [cat_at l n j m hj (by omega) hf, List.getD_eq_getElem?_getD, List.getElem?_eq_getElem (by omega)]
      rfl
    · rw [List.getElem?_eq_none (by rw [chunk_Split.row_length]; omega), List.getElem?_eq_none (by omega)]
theorem fit_row (s : ByteArray) (m : Nat) : ∀ j, j ≤ m → chunk_Join.fit (chunk_Split.row s m) s.size j = true
  | 0, _ => rfl
  | j + 1, h => by
    rw [chunk_Join.fit, fit_row s m j (by omega), List.getD_eq_getElem?_getD, row_get s m j (by omega)]
    show (true && decide ((chunk_Split.at_ s j).size = _)) = true
    rw [at_size]
    simp
theorem cat_ch (s : ByteArray) (m : Nat) : ∀ j, j ≤ m → catL (chunk_Split.row s m) j = s.data.toList.take (64 * j)
  | 0, _ => by simp [catL]
  | j + 1, h => by
    rw [catL, cat_ch s m j (by omega), List.getD_eq_getElem?_getD, row_get s m j (by omega)]
    show _ ++ (chunk_Split.at_ s j).data.toList = _
    rw [at_list, show 64 * (j + 1) = 64 * j + 64 by omega, List.take_add]
theorem join_ch (s : ByteArray) (hs : s.size ≤ 4096) : chunk_Join.f (ch s) s.size = some (s, 0) := by
  unfold chunk_Join.f ch
  have hl := chunk_Split.row_length s ((s.size + 63) / 64)
  have hf := fit_row s ((s.size + 63) / 64) _ (Nat.le_refl _)
  rw [if_neg (by omega), Int.toNat_natCast, if_neg (by rw [hl]; omega), hl, if_pos hf, row_cat _ _ _ hf (Nat.le_refl _), cat_ch s _ _ (Nat.le_refl _)]
  congr 2
  apply ba_ext
  rw [strOfNums_data, List.take_of_length_le (by rw [data_length]; omega), show s.size - min (64 * ((s.size + 63) / 64)) s.size = 0 by omega, List.replicate_zero, List.append_nil]
  exact back_bytes s

/-- The reference's loop comes to the texts' own content, or refuses. -/
theorem ref_loop (l : List ByteArray) (hl : l.length ≤ 70) (hz : ∀ j, (l.getD j ByteArray.empty).size ≤ 70) (n : Int) (r : Nat) : ∀ (k i : Nat) (x : ByteArray), i ≤ l.length → l.length - i = r → r + 9001 < k → x.size ≤ 70 * i →
    aquiferref15_Join.l0 k l n x i = some (⟨#[]⟩, 5) ∨ ∃ t : ByteArray, aquiferref15_Join.l0 k l n x i = some (t, 0) ∧ (t.size : Int) = n ∧ ch t = l := by
  induction r with
  | zero =>
    intro k i x hi hr hk hx
    obtain ⟨k, rfl⟩ : ∃ m, k = m + 1 := ⟨k - 1, by omega⟩
    simp only [aquiferref15_Join.l0]
    rw [if_neg (by omega)]
    by_cases h : (x.size : Int) = n
    · rw [if_pos h, split_same x (by omega) k (by omega)]
      simp only [Option.bind_some]
      rw [texts_some _ _ (by rw [ch_length]; omega) k (by rw [ch_length]; omega)]
      simp only [Option.bind_some]
      by_cases he : ch x = l
      · exact .inr ⟨x, by rw [if_pos (decide_eq_true he)], h, he⟩
      · exact .inl (by rw [if_neg (by rw [decide_eq_false he]; exact Bool.false_ne_true)])
    · exact .inl (by rw [if_neg h])
  | succ r ih =>
    intro k i x hi hr hk hx
    obtain ⟨k, rfl⟩ : ∃ m, k = m + 1 := ⟨k - 1, by omega⟩
    have hw : wrap64 ((i : Int) + 1) = ((i + 1 : Nat) : Int) := by unfold wrap64; omega
    have hsz := hz i
    have hn := ih k (i + 1) (x ++ l.getD i ByteArray.empty) (by omega) (by omega) (by omega) (by rw [ByteArray.size_append]; omega)
    simp only [aquiferref15_Join.l0]
    unfold rdOf
    rw [if_pos (by omega), if_pos (by omega), hw, Int.toNat_natCast]
    by_cases h1 : ((l.getD i ByteArray.empty).size : Int) > 64
    · exact .inl (by rw [if_pos h1])
    rw [if_neg h1]
    by_cases h2 : (x.size : Int) > 4096
    · exact .inl (by rw [if_pos h2])
    rw [if_neg h2, if_pos (by omega)]
    exact hn
/-- Over the chunks of a content it comes to that content. -/
theorem ref_good (s : ByteArray) (hs : s.size ≤ 4096) (r : Nat) : ∀ (k i : Nat) (x : ByteArray), i ≤ (ch s).length → (ch s).length - i = r → r + 9001 < k → x.data.toList = s.data.toList.take (64 * i) →
    aquiferref15_Join.l0 k (ch s) s.size x i = some (s, 0) := by
  have hl := ch_length s
  induction r with
  | zero =>
    intro k i x hi hr hk hx
    obtain ⟨k, rfl⟩ : ∃ m, k = m + 1 := ⟨k - 1, by omega⟩
    obtain rfl : x = s := ba_ext (by rw [hx, List.take_of_length_le (by rw [data_length]; omega)])
    simp only [aquiferref15_Join.l0]
    rw [if_neg (by omega), if_true, split_same x (by omega) k (by omega)]
    simp only [Option.bind_some]
    rw [texts_some _ _ (by omega) k (by omega)]
    simp only [Option.bind_some, decide_true, if_true]
  | succ r ih =>
    intro k i x hi hr hk hx
    obtain ⟨k, rfl⟩ : ∃ m, k = m + 1 := ⟨k - 1, by omega⟩
    have hw : wrap64 ((i : Int) + 1) = ((i + 1 : Nat) : Int) := by unfold wrap64; omega
    have hg : (ch s).getD i ByteArray.empty = chunk_Split.at_ s i := by
      rw [List.getD_eq_getElem?_getD]
      unfold ch
      rw [row_get s _ i (by omega)]
      rfl
    have hxs : x.size ≤ 4096 := by rw [← data_length, hx, List.length_take, data_length]; omega
    have hsz := at_size s i
    have hn := ih k (i + 1) (x ++ chunk_Split.at_ s i) (by omega) (by omega) (by omega) (by rw [ByteArray.data_append, Array.toList_append, hx, at_list, show 64 * (i + 1) = 64 * i + 64 by omega, List.take_add])
    simp only [aquiferref15_Join.l0]
    unfold rdOf
    rw [if_pos (by omega), if_pos (by omega), hw, Int.toNat_natCast, hg, if_neg (by omega), if_neg (by omega), if_pos (by omega)]
    exact hn

theorem join_same (l : List ByteArray) (hl : l.length ≤ 70) (hz : ∀ j, (l.getD j ByteArray.empty).size ≤ 70) (x : Int) (k : Nat) (hk : 9100 ≤ k) : ∃ r, chunk_Join.f l x = some r ∧ aquiferref15_Join.f k l x = some r := by
  obtain ⟨k, rfl⟩ : ∃ m, k = m + 1 := ⟨k - 1, by omega⟩
  unfold aquiferref15_Join.f
  by_cases h1 : x < 0
  · refine ⟨(⟨#[]⟩, 2), ?_, by rw [if_pos h1]; rfl⟩
    unfold chunk_Join.f
    rw [if_pos (.inl h1)]
  rw [if_neg h1]
  simp only [aquiferref15_Join.j0]
  by_cases h2 : x > 4096
  · refine ⟨(⟨#[]⟩, 2), ?_, by rw [if_pos (decide_eq_true h2)]⟩
    unfold chunk_Join.f
    rw [if_pos (.inr h2)]
  rw [if_neg (by rw [decide_eq_false h2]; exact Bool.false_ne_true)]
  obtain ⟨n, rfl⟩ := Int.eq_ofNat_of_zero_le (show 0 ≤ x by omega)
  by_cases hg : ∃ t : ByteArray, t.size = n ∧ ch t = l
  · obtain ⟨t, rfl, rfl⟩ := hg
    refine ⟨(t, 0), join_ch t (by omega), ?_⟩
    have h := ref_good t (by omega) (ch t).length k 0 ⟨#[]⟩ (by omega) rfl (by omega) (by simp)
    exact h
  · refine ⟨(⟨#[]⟩, 5), ?_, ?_⟩
    · unfold chunk_Join.f
      rw [if_neg (by omega), Int.toNat_natCast]
      by_cases h3 : l.length ≠ (n + 63) / 64
      · rw [if_pos h3]
      · rw [if_neg h3]
        have h3' : l.length = (n + 63) / 64 := by omega
        by_cases h4 : chunk_Join.fit l n l.length = true
        · exact absurd (fit_ch l n l.length h3'.symm rfl h4) hg
        · rw [if_neg h4]
    · rcases ref_loop l hl hz n l.length k 0 ⟨#[]⟩ (by omega) rfl (by omega) (by decide) with h | ⟨t, _, h4, h5⟩
      · exact h
      · exact absurd ⟨t, by omega, h5⟩ hg

/-! ### the law's own loop, and the law -/
def cut70 (s : ByteArray) : ByteArray := s.extract 0 (mn (s.size : Int) 70).toNat
def firsts (l : List ByteArray) (i : Nat) : List ByteArray := (l.take i).map cut70
theorem cut70_size (s : ByteArray) : (cut70 s).size ≤ 70 := by
  unfold cut70 mn
  rw [ByteArray.size_extract]
  split <;> omega

theorem law_end (s : ByteArray) (hs : s.size ≤ 4200) (l : List ByteArray) (hl : l.length ≤ 70) (hz : ∀ j, (l.getD j ByteArray.empty).size ≤ 70) (x y : Int) (hx0 : -9223372036854775808 ≤ x) (hx1 : x ≤ 9223372036854775807) (k : Nat) (hk : 9101 ≤ k) :
    aquiferlaw15_ChunkCuts.j1 k s l x y = some true := by
  obtain ⟨k, rfl⟩ : ∃ m, k = m + 1 := ⟨k - 1, by omega⟩
  obtain ⟨b, hb1, hb2⟩ := bounds_some x y hx0
  obtain ⟨j, hj1, hj2⟩ := join_same l hl hz x k (by omega)
  obtain ⟨k', hk'⟩ : ∃ m, k = m + 1 := ⟨k - 1, by omega⟩
  simp only [aquiferlaw15_ChunkCuts.j1]
  rw [hb1, hj1, hj2, show aquiferref15_Bounds.f k x y = some b by rw [hk']; exact hb2 k']
  simp only [Option.bind_some]
  rw [split_some s (by omega), split_same s (by omega) k (by omega)]
  simp only [Option.bind_some]
  rw [texts_some _ _ (by rw [ch_length]; omega) k (by rw [ch_length]; omega)]
  simp only [Option.bind_some, decide_true, if_true]
  rw [count_some x hx0 hx1, count_same x hx0 hx1]
  simp only [Option.bind_some, if_true]
  rw [works_true]
  rfl

theorem law_loop (s : ByteArray) (hs : s.size ≤ 4200) (l : List ByteArray) (hl : l.length ≤ 9223372036854775807) (x y : Int) (hx0 : -9223372036854775808 ≤ x) (hx1 : x ≤ 9223372036854775807) (r : Nat) :
    ∀ (k i : Nat), i ≤ l.length → i ≤ 70 → 70 - i = r → r + 9102 < k → aquiferlaw15_ChunkCuts.l0 k s l (firsts l i) i x y = some true := by
  have fin (k i : Nat) (hi : i ≤ 70) (hk : 9101 ≤ k) : aquiferlaw15_ChunkCuts.j1 k s (firsts l i) x y = some true := by
    refine law_end s hs _ ?_ (fun j => ?_) x y hx0 hx1 k hk
    · unfold firsts
      rw [List.length_map, List.length_take]
      omega
    · rw [List.getD_eq_getElem?_getD]
      unfold firsts
      rw [List.getElem?_map]
      cases (l.take i)[j]? with
      | none => exact Nat.zero_le _
      | some z => exact cut70_size z
  have hfl (i : Nat) (hi : i ≤ l.length) : (firsts l i).length = i := by unfold firsts; rw [List.length_map, List.length_take]; omega
  induction r with
  | zero =>
    intro k i hi h70 hr hk
    obtain ⟨k, rfl⟩ : ∃ m, k = m + 1 := ⟨k - 1, by omega⟩
    simp only [aquiferlaw15_ChunkCuts.l0]
    by_cases h1 : (i : Int) < (l.length : Int)
    · rw [if_pos h1, if_neg (by omega)]
      exact fin k i h70 (by omega)
    · rw [if_neg h1]
      exact fin k i h70 (by omega)
  | succ r ih =>
    intro k i hi h70 hr hk
    obtain ⟨k, rfl⟩ : ∃ m, k = m + 1 := ⟨k - 1, by omega⟩
    have hw : wrap64 ((i : Int) + 1) = ((i + 1 : Nat) : Int) := by unfold wrap64; omega
    simp only [aquiferlaw15_ChunkCuts.l0]
    by_cases h1 : (i : Int) < (l.length : Int)
    · have hg : rdOf ByteArray.empty l (i : Int) = l[i]'(by omega) := by
        unfold rdOf
        rw [Int.toNat_natCast, List.getD_eq_getElem?_getD, List.getElem?_eq_getElem (by omega)]
        rfl
      have hm : 0 ≤ mn ((l[i]'(by omega)).size : Int) 70 ∧ mn ((l[i]'(by omega)).size : Int) 70 ≤ (l[i]'(by omega)).size := by
        unfold mn
        split <;> omega
      have hfl' := hfl i hi
      rw [if_pos h1, if_pos (by omega), if_pos (by omega), hg, if_pos hm.1, if_pos hm.2, if_pos (by omega), hw]
      have e : firsts l i ++ [(l[i]'(by omega)).extract 0 (mn ((l[i]'(by omega)).size : Int) 70).toNat] = firsts l (i + 1) := by
        unfold firsts
        rw [List.take_succ_eq_append_getElem (by omega), List.map_append]
        rfl
      rw [e]
      exact ih k (i + 1) (by omega) (by omega) (by omega) (by omega)
    · rw [if_neg h1]
      exact fin k i h70 (by omega)
end ChunkCuts
open ChunkCuts in
/-- The law's value, whatever it is given. -/
theorem ChunkCuts (a0 : ByteArray) (l : List ByteArray) (x y : Int) (hl : l.length ≤ 9223372036854775807) (hx : (Lit.int .i64 x).wf = true) (k : Nat) (hk : 9300 ≤ k) : aquiferlaw15_ChunkCuts.f k a0 l x y = some true := by
  obtain ⟨s, hs, hs1⟩ := few_some a0
  have hb := bounds_of hx
  unfold aquiferlaw15_ChunkCuts.f
  rw [hs]
  exact law_loop s hs1 l hl x y hb.1 hb.2 70 k 0 (Nat.zero_le _) (by omega) (by omega) (by omega)

end Go.Proofs.Ytealmnllljoolaa.Pure
