/- The plain law of PageCuts: the walk's pieces are the reference's, joined they are the text, and it is blank where the reference says. -/
import Derived.Test.YthkcnkhhaiapfaaDoorPPageAllx36
import Derived.Test.YthkcnkhhaiapfaaDoorPagePure
namespace Go.Proofs.YthkcnkhhaiapfaaDoor.Pure
open Go Go.RowKit Go.Proofs.YthkcnkhhaiapfaaDoor.PPageAll Go.Proofs.YthkcnkhhaiapfaaDoorW.PrintWords Go.Proofs.YthkcnkhhaiapfaaDoorW.PrintLast
/-- The pieces of 64 bytes from a place on. -/
def piece (s : ByteArray) (i : Nat) : ByteArray := s.extract (64 * i) (64 * i + 64)
def pieces (s : ByteArray) (n : Nat) : List ByteArray := (List.range n).map (piece s)
def count (s : ByteArray) : Nat := (s.size + 63) / 64
theorem pieces_succ (s : ByteArray) (n : Nat) : pieces s (n + 1) = pieces s n ++ [piece s n] := by
  unfold pieces
  rw [List.range_succ, List.map_append]
  rfl
theorem pieces_length (s : ByteArray) (n : Nat) : (pieces s n).length = n := by
  unfold pieces
  simp
theorem ext_list {a b : ByteArray} (h : a.data.toList = b.data.toList) : a = b := Copy.ba_ext h
theorem extract_clip (s : ByteArray) (a b : Nat) (h : s.size ≤ b) : s.extract a b = s.extract a s.size := by
  apply ext_list
  rw [Copy.extract_list, Copy.extract_list, List.take_of_length_le (by rw [List.length_drop, data_length]; omega), List.take_of_length_le (by rw [List.length_drop, data_length]; omega)]
theorem extract_tail (s : ByteArray) (i m : Nat) : (s.extract i s.size).extract 0 m = s.extract i (i + m) := by
  apply ext_list
  rw [Copy.extract_list, Copy.extract_list, Copy.extract_list, List.drop_zero, List.take_of_length_le (l := s.data.toList.drop i) (by rw [List.length_drop, data_length]; omega), Nat.sub_zero, Nat.add_sub_cancel_left]
theorem extract_step (s : ByteArray) (i m : Nat) : (s.extract i s.size).extract m (s.extract i s.size).size = s.extract (i + m) s.size := by
  apply ext_list
  rw [Copy.extract_list, Copy.extract_list, Copy.extract_list, List.take_of_length_le (l := s.data.toList.drop i) (by rw [List.length_drop, data_length]; omega), List.drop_drop, List.take_of_length_le, List.take_of_length_le (by rw [List.length_drop, data_length]; omega)]
  rw [List.length_drop, data_length, ByteArray.size_extract]
  omega
theorem sectors_loop (s : ByteArray) (hs : s.size ≤ 700) : ∀ (d k i : Nat), i + d = count s → d < k → page_Sectors.l0 k (s.extract (64 * i) s.size) (pieces s i) = some (pieces s (count s))
  | d, 0, _, _, h => by omega
  | d, k + 1, i, hi, hk => by
    have hc : count s = (s.size + 63) / 64 := rfl
    have hz : (s.extract (64 * i) s.size).size = s.size - 64 * i := by rw [ByteArray.size_extract]; omega
    rw [page_Sectors.l0, hz]
    by_cases h : 0 < s.size - 64 * i
    · have hm : mn 64 ((s.size - 64 * i : Nat) : Int) = ((min 64 (s.size - 64 * i) : Nat) : Int) := by unfold mn; omega
      rw [if_pos (by omega), hm, if_pos (by omega), if_pos (by omega), if_pos (by rw [pieces_length]; omega), Int.toNat_natCast, extract_tail]
      have e0 := extract_step s (64 * i) (min 64 (s.size - 64 * i))
      rw [hz] at e0
      rw [e0]
      have e1 : s.extract (64 * i + min 64 (s.size - 64 * i)) s.size = s.extract (64 * (i + 1)) s.size := by
        rcases Nat.le_total 64 (s.size - 64 * i) with h6 | h6
        · rw [Nat.min_eq_left h6]
          rfl
        · rw [Nat.min_eq_right h6]
          apply ext_list
          rw [Copy.extract_list, Copy.extract_list, List.drop_of_length_le (by rw [data_length]; omega), List.drop_of_length_le (by rw [data_length]; omega), List.take_nil, List.take_nil]
      have e2 : s.extract (64 * i) (64 * i + min 64 (s.size - 64 * i)) = piece s i := by
        unfold piece
        rcases Nat.le_total 64 (s.size - 64 * i) with h6 | h6
        · rw [Nat.min_eq_left h6]
        · rw [Nat.min_eq_right h6, extract_clip s (64 * i) (64 * i + 64) (by omega), extract_clip s (64 * i) (64 * i + (s.size - 64 * i)) (by omega)]
      rw [e1, e2, ← pieces_succ]
      obtain ⟨d', rfl⟩ : ∃ d', d = d' + 1 := ⟨d - 1, by omega⟩
      exact sectors_loop s hs d' k (i + 1) (by omega) (by omega)
    · rw [if_neg (by omega), show i = count s by omega]
theorem sectors_f (s : ByteArray) (hs : s.size ≤ 700) {k : Nat} (hk : 20 ≤ k) : page_Sectors.f k s = some (pieces s (count s)) := by
  have h := sectors_loop s hs (count s) k 0 (by omega) (by unfold count; omega)
  have e : s.extract (64 * 0) s.size = s := by
    apply ext_list
    rw [Copy.extract_list, List.drop_zero, List.take_of_length_le (by rw [data_length]; omega)]
  rw [e] at h
  exact h
theorem ref_loop (s : ByteArray) (hs : s.size ≤ 700) : ∀ (d k i : Nat), i + d = count s → d < k → aquiferref09_Sectors.l0 k s (pieces s i) ((64 * i : Nat) : Int) = some (pieces s (count s))
  | d, 0, _, _, h => by omega
  | d, k + 1, i, hi, hk => by
    have hc : count s = (s.size + 63) / 64 := rfl
    rw [aquiferref09_Sectors.l0]
    have hw : wrap64 (((64 * i : Nat) : Int) + 64) = ((64 * (i + 1) : Nat) : Int) := by unfold wrap64; omega
    rw [hw]
    by_cases h : 64 * i < s.size
    · obtain ⟨d', rfl⟩ : ∃ d', d = d' + 1 := ⟨d - 1, by omega⟩
      rw [if_pos (by omega)]
      by_cases h6 : s.size < 64 * (i + 1)
      · rw [if_pos (by omega), if_pos (by omega), if_pos (by omega), if_pos (by omega), if_pos (by rw [pieces_length]; omega), Int.toNat_natCast, Int.toNat_natCast, ← extract_clip s (64 * i) (64 * i + 64) (by omega)]
        show aquiferref09_Sectors.l0 k s (pieces s i ++ [piece s i]) _ = _
        rw [← pieces_succ]
        exact ref_loop s hs d' k (i + 1) (by omega) (by omega)
      · rw [if_neg (by omega), if_pos (by omega), if_pos (by omega), if_pos (by omega), if_pos (by rw [pieces_length]; omega), Int.toNat_natCast, Int.toNat_natCast]
        show aquiferref09_Sectors.l0 k s (pieces s i ++ [piece s i]) _ = _
        rw [← pieces_succ]
        exact ref_loop s hs d' k (i + 1) (by omega) (by omega)
    · rw [if_neg (by omega), show i = count s by omega]
theorem ref_f (s : ByteArray) (hs : s.size ≤ 700) {k : Nat} (hk : 20 ≤ k) : aquiferref09_Sectors.f k s = some (pieces s (count s)) :=
  ref_loop s hs (count s) k 0 (by omega) (by unfold count; omega)
theorem same_loop (l : List ByteArray) (hl : l.length < 1000) : ∀ (d k i : Nat), i + d = l.length → d < k → aquiferref04_SameTexts.l0 k l l (i : Int) = some true
  | d, 0, _, _, h => by omega
  | d, k + 1, i, hi, hk => by
    rw [aquiferref04_SameTexts.l0]
    by_cases h : i < l.length
    · obtain ⟨d', rfl⟩ : ∃ d', d = d' + 1 := ⟨d - 1, by omega⟩
      rw [if_pos (by omega), if_pos (by omega), if_pos (by omega), if_pos rfl, Crc.wrap_succ (by omega)]
      exact same_loop l hl d' k (i + 1) (by omega) (by omega)
    · rw [if_neg (by omega)]
theorem same_f (l : List ByteArray) (hl : l.length < 20) {k : Nat} (hk : 20 ≤ k) : aquiferref04_SameTexts.f k l l = some true := by
  unfold aquiferref04_SameTexts.f
  rw [if_pos rfl]
  exact same_loop l (by omega) l.length k 0 (by omega) (by omega)
theorem blank_loop (s : ByteArray) (hs : s.size ≤ 700) : ∀ (d k i : Nat), i + d = s.size → d < k → (∀ x ∈ (Page.nb s).take i, x = 0) → ∃ b, aquiferref09_Blank.l0 k s (i : Int) = some b ∧ (b = true ↔ s.size = 512 ∧ ∀ x ∈ Page.nb s, x = 0)
  | d, 0, _, _, h, _ => by omega
  | d, k + 1, i, hi, hk, hz => by
    rw [aquiferref09_Blank.l0]
    have hnl := Page.nb_length s
    by_cases h : i < s.size
    · obtain ⟨d', rfl⟩ : ∃ d', d = d' + 1 := ⟨d - 1, by omega⟩
      rw [if_pos (by omega), if_pos (by omega), Page.bt_nb]
      have hget : (Page.nb s).getD i 0 = (Page.nb s)[i]'(by omega) := by
        rw [List.getD_eq_getElem?_getD, List.getElem?_eq_getElem (by omega)]
        rfl
      by_cases hx : (Page.nb s).getD i 0 = 0
      · rw [if_pos (by omega), Crc.wrap_succ (by omega)]
        refine blank_loop s hs d' k (i + 1) (by omega) (by omega) ?_
        rw [List.take_succ_eq_append_getElem (by omega)]
        intro x hm
        rcases List.mem_append.1 hm with hm | hm
        · exact hz x hm
        · rw [List.mem_singleton.1 hm, ← hget]
          exact hx
      · rw [if_neg (by omega)]
        refine ⟨false, rfl, ⟨fun h => (by cases h), fun hh => absurd (hh.2 _ ?_) hx⟩⟩
        rw [hget]
        exact List.getElem_mem _
    · rw [if_neg (by omega)]
      refine ⟨_, rfl, ?_⟩
      rw [List.take_of_length_le (by omega)] at hz
      rw [beq_iff_eq]
      constructor
      · intro h
        exact ⟨by omega, hz⟩
      · intro h
        omega
theorem blank_own (s : ByteArray) : ∃ b, page_Blank.f s = some b ∧ (b = true ↔ s.size = 512 ∧ ∀ x ∈ Page.nb s, x = 0) := by
  unfold page_Blank.f
  by_cases hs : s.size = 512
  · obtain ⟨t, ht, hi⟩ := strings_Trim.total s (by omega)
    rw [if_pos (by omega), ht, Option.bind_some]
    exact ⟨_, rfl, by rw [beq_iff_eq]; exact hi.trans ⟨fun h => ⟨hs, h⟩, fun h => h.2⟩⟩
  · rw [if_neg (by omega)]
    exact ⟨false, rfl, ⟨fun h => (by cases h), fun h => absurd h.1 hs⟩⟩
theorem join_size (s : ByteArray) (i : Nat) : (s.extract 0 (64 * i)).size ≤ s.size := by
  rw [ByteArray.size_extract]
  omega
theorem join_step (s : ByteArray) (i : Nat) : s.extract 0 (64 * i) ++ piece s i = s.extract 0 (64 * (i + 1)) := by
  apply ext_list
  rw [ByteArray.data_append, Array.toList_append, Copy.extract_list, piece, Copy.extract_list, Copy.extract_list, List.drop_zero, Nat.sub_zero, Nat.sub_zero, Nat.add_sub_cancel_left, show 64 * (i + 1) = 64 * i + 64 by omega]
  exact List.take_add.symm
theorem law_end (s : ByteArray) (hs : s.size ≤ 700) (k : Nat) (hk : 720 ≤ k) (x : ByteArray) (hx : x = s) :
    ((aquiferref09_Sectors.f k s).bind fun t146 => ((aquiferref04_SameTexts.f k (pieces s (count s)) t146).bind fun t149 => (if t149 = true then (if x.toList = s.toList then ((page_Blank.f s).bind fun t150 => ((aquiferref09_Blank.f k s).bind fun t151 => (if (t150 == t151) = true then (if 512 ≤ 281474976710656 then ((page_Blank.f (strOfNums (List.replicate 512 0))).bind fun t155 => (if t155 = true then ((aquiferlaw09_works.f).bind fun t156 => (some t156)) else (some false))) else (none)) else (some false)))) else (some false)) else (some false)))) = some true := by
  subst hx
  obtain ⟨b1, h1, i1⟩ := blank_own x
  obtain ⟨b2, h2, i2⟩ := blank_loop x hs x.size k 0 (by omega) (by omega) (by simp)
  have hz : strOfNums (List.replicate 512 0) = Page.str (List.replicate 512 0) := by
    unfold Page.str
    rw [← Crc.ints_zeros]
  obtain ⟨b3, h3, i3⟩ := blank_own (Page.str (List.replicate 512 0))
  have hb3 : b3 = true := i3.2 ⟨by rw [Page.str_size, List.length_replicate], fun y hy => by
    rw [Page.nb_str (Crc.By.zeros 512)] at hy
    exact (List.mem_replicate.1 hy).2⟩
  have hb : b1 = b2 := Bool.eq_iff_iff.2 (i1.trans i2.symm)
  have h2' : aquiferref09_Blank.f k x = some b2 := h2
  rw [ref_f x hs (by omega), Option.bind_some, same_f _ (by rw [pieces_length]; unfold count; omega) (by omega), Option.bind_some, if_pos rfl, if_pos rfl, h1, Option.bind_some, h2', Option.bind_some, if_pos (by rw [hb]; simp), if_pos (by decide), hz, h3, Option.bind_some, if_pos hb3, Page.works_f, Option.bind_some]
theorem law_loop (s : ByteArray) (hs : s.size ≤ 700) : ∀ (d k i : Nat), i + d = count s → d + 720 < k → aquiferlaw09_PageCuts.l0 k s (pieces s (count s)) (s.extract 0 (64 * i)) (pieces s (count s)) ((count s : Nat) : Int) (i : Int) = some true
  | d, 0, _, _, h => by omega
  | d, k + 1, i, hi, hk => by
    have hc : count s = (s.size + 63) / 64 := rfl
    rw [aquiferlaw09_PageCuts.l0]
    by_cases h : i < count s
    · obtain ⟨d', rfl⟩ : ∃ d', d = d' + 1 := ⟨d - 1, by omega⟩
      have hr : rdOf ByteArray.empty (pieces s (count s)) (i : Int) = piece s i := by
        unfold rdOf pieces
        rw [Int.toNat_natCast, List.getD_eq_getElem?_getD, List.getElem?_map, List.getElem?_range h]
        rfl
      have hp : (piece s i).size ≤ 64 := by
        unfold piece
        rw [ByteArray.size_extract]
        omega
      have hj := join_size s i
      rw [if_pos (by omega), if_pos (by omega), if_pos (by rw [pieces_length]; omega), hr, if_pos (by omega), join_step, Crc.wrap_succ (by omega)]
      exact law_loop s hs d' k (i + 1) (by omega) (by omega)
    · rw [if_neg (by omega)]
      refine law_end s hs k (by omega) _ ?_
      rw [extract_clip s 0 (64 * i) (by omega)]
      apply ext_list
      rw [Copy.extract_list, List.drop_zero, List.take_of_length_le (by rw [data_length]; omega)]
theorem PageCuts : aquiferlaw09_PageCuts.Pure := by
  intro a0 _
  refine ⟨800, ?_⟩
  unfold aquiferlaw09_PageCuts.f
  rw [if_pos (by unfold mn; omega), if_pos (by unfold mn; omega)]
  have hs : (a0.extract 0 (mn (a0.size : Int) 700).toNat).size ≤ 700 := by
    rw [ByteArray.size_extract]
    unfold mn
    omega
  generalize a0.extract 0 (mn (a0.size : Int) 700).toNat = s at *
  rw [sectors_f s hs (by omega), Option.bind_some, pieces_length]
  have h := law_loop s hs (count s) 800 0 (by omega) (by unfold count; omega)
  have e : s.extract 0 (64 * 0) = (⟨#[]⟩ : ByteArray) := by
    apply ext_list
    rw [Copy.extract_list]
    rfl
  rw [e] at h
  exact h
end Go.Proofs.YthkcnkhhaiapfaaDoor.Pure
