/- The plain law of ChunkCutting: cut to a length, and to a lesser one, is cut to that; lengthened it has noughts behind. -/
import Derived.Test.YtealmnllljoolaaDoorPChunkCuttingx27
namespace Go.Proofs.YtealmnllljoolaaDoor.Pure
open Go.RowKit Go.Proofs.YtealmnllljoolaaDoor.PChunkCutting Go.Proofs.YtealmnllljoolaaDoorW.PrintWords Go.Proofs.YtealmnllljoolaaDoorW.PrintLast Go.Proofs.YtealmnllljoolaaDoor.Copy Go.Proofs.YtealmnllljoolaaDoor
theorem works_true : aquiferlaw15_works.f = some true := by decide +kernel
/-- What cutting to a length leaves of a row of bytes. -/
def cut (l : List UInt8) (k : Nat) : List UInt8 := l.take k ++ List.replicate (k - l.length) 0
theorem cut_length (l : List UInt8) (k : Nat) : (cut l k).length = k := by
  unfold cut
  rw [List.length_append, List.length_take, List.length_replicate]
  omega
theorem cut_cut (l : List UInt8) {p q : Nat} (h : q ≤ p) : cut (cut l p) q = cut l q := by
  have e : cut (cut l p) q = (cut l p).take q := by
    show (cut l p).take q ++ List.replicate (q - (cut l p).length) 0 = _
    rw [cut_length, show q - p = 0 by omega, List.replicate_zero, List.append_nil]
  rw [e]
  unfold cut
  rw [List.take_append, List.take_take, Nat.min_eq_left h, List.length_take, List.take_replicate]
  congr 2
  omega
theorem trunc_f (s : ByteArray) (k : Nat) (hs : s.size ≤ 4096) (hk : k ≤ 4096) : ∃ t, chunk_Truncate.f s (k : Int) = some (t, 0) ∧ t.data.toList = cut s.data.toList k := by
  unfold chunk_Truncate.f
  rw [if_neg (by omega), if_neg (by omega), if_neg (by omega), Int.toNat_natCast]
  refine ⟨_, rfl, ?_⟩
  rw [strOfNums_data, over_map, List.map_replicate, List.map_take, back_bytes]
  unfold over cut
  rw [List.take_zero, List.nil_append, Nat.zero_add, List.length_take, List.drop_replicate, data_length]
  have e : s.data.toList.take (min s.size k) = s.data.toList.take k := by
    rcases Nat.le_total s.size k with h | h
    · rw [Nat.min_eq_left h, List.take_of_length_le (by rw [data_length]; omega), List.take_of_length_le (by rw [data_length]; omega)]
    · rw [Nat.min_eq_right h]
  rw [e]
  have e2 : k - min (min s.size k) s.size = k - s.size := by omega
  rw [e2]
  rfl
theorem place (a : Int) : ∃ n : Nat, Int.tmod (wrap64 (Int.tmod a 4097 + 4097)) 4097 = (n : Int) ∧ n ≤ 4096 := by
  have h1 := Int.tmod_lt_of_pos a (show (0 : Int) < 4097 by decide)
  have h2 : -4097 < Int.tmod a 4097 := by
    rcases Int.le_total 0 a with h | h
    · have := Int.tmod_nonneg 4097 h
      omega
    · have := Int.tmod_nonneg 4097 (a := -a) (by omega)
      have e : Int.tmod (-a) 4097 = -Int.tmod a 4097 := Int.neg_tmod ..
      have := Int.tmod_lt_of_pos (-a) (show (0 : Int) < 4097 by decide)
      omega
  generalize Int.tmod a 4097 = y at *
  have e : wrap64 (y + 4097) = y + 4097 := by unfold wrap64; omega
  rw [e]
  have h3 := Int.tmod_nonneg 4097 (a := y + 4097) (by omega)
  have h4 := Int.tmod_lt_of_pos (y + 4097) (show (0 : Int) < 4097 by decide)
  exact ⟨(Int.tmod (y + 4097) 4097).toNat, by omega, by omega⟩
theorem toList_eq_of {a b : ByteArray} (h : a.data.toList = b.data.toList) : a = b := ba_ext h
theorem ChunkCutting : aquiferlaw15_ChunkCutting.Pure := by
  intro a0 a1 a2 _ _ _
  refine ⟨1, ?_⟩
  unfold aquiferlaw15_ChunkCutting.f
  rw [if_pos (by unfold mn; omega), if_pos (by unfold mn; omega)]
  have hs : (a0.extract 0 (mn (a0.size : Int) 4096).toNat).size ≤ 4096 := by
    rw [ByteArray.size_extract]
    unfold mn
    omega
  generalize a0.extract 0 (mn (a0.size : Int) 4096).toNat = s at *
  obtain ⟨n, hn, hnl⟩ := place a1
  obtain ⟨m, hm, hml⟩ := place a2
  rw [hn, hm]
  obtain ⟨P, hP, hPl⟩ : ∃ P : Nat, mx (n : Int) (m : Int) = (P : Int) ∧ P = max n m := ⟨max n m, by unfold mx; omega, rfl⟩
  obtain ⟨Q, hQ, hQl⟩ : ∃ Q : Nat, mn (n : Int) (m : Int) = (Q : Int) ∧ Q = min n m := ⟨min n m, by unfold mn; omega, rfl⟩
  rw [hP, hQ]
  obtain ⟨A, hA, hAd⟩ := trunc_f s P hs (by omega)
  have hAs : A.size = P := by rw [← data_length, hAd, cut_length]
  obtain ⟨B, hB, hBd⟩ := trunc_f A Q (by omega) (by omega)
  obtain ⟨C, hC, hCd⟩ := trunc_f s Q hs (by omega)
  have hBC : B = C := ba_ext (by rw [hBd, hCd, hAd, cut_cut _ (by omega)])
  subst hBC
  rw [hA, Option.bind_some, hB, Option.bind_some, hC, Option.bind_some, if_pos rfl, if_pos rfl, if_pos rfl, if_pos rfl]
  show aquiferlaw15_ChunkCutting.j0 1 s A ((A.size : Int) != (P : Int)) = some true
  rw [aquiferlaw15_ChunkCutting.j0]
  rw [if_neg (by simp [hAs])]
  have heq : A.extract 0 (mn (A.size : Int) (s.size : Int)).toNat = s.extract 0 (mn (A.size : Int) (s.size : Int)).toNat := by
    have e : (mn (A.size : Int) (s.size : Int)).toNat = min P s.size := by
      rw [hAs]
      unfold mn
      omega
    rw [e]
    apply ba_ext
    rw [extract_list, extract_list, hAd, List.drop_zero, List.drop_zero, Nat.sub_zero]
    unfold cut
    rw [List.take_append_of_le_length (by rw [List.length_take, data_length]; omega), List.take_take]
    congr 1
    omega
  by_cases h : P ≤ s.size
  · rw [if_neg (show ¬ (A.size : Int) > (s.size : Int) by omega), if_pos (by unfold mn; omega), if_pos (by unfold mn; omega), if_pos (by unfold mn; omega), heq, if_pos rfl, works_true, Option.bind_some]
  · obtain ⟨t, ht, hi⟩ := strings_Trim.total (A.extract s.size A.size) (by rw [ByteArray.size_extract]; omega)
    have hz : ∀ x ∈ Page.nb (A.extract s.size A.size), x = 0 := by
      unfold Page.nb
      rw [extract_list, hAd]
      unfold cut
      rw [List.take_of_length_le (l := s.data.toList) (by rw [data_length]; omega), List.drop_left' (by rw [data_length])]
      intro x hx
      obtain ⟨y, hy, rfl⟩ := List.mem_map.1 hx
      rw [(List.mem_replicate.1 (List.mem_of_mem_take hy)).2]
      rfl
    rw [if_pos (show (A.size : Int) > (s.size : Int) by omega), if_pos (by omega), if_pos (by omega), ht, Option.bind_some, if_pos (hi.2 hz), if_pos (by unfold mn; omega), if_pos (by unfold mn; omega), if_pos (by unfold mn; omega), heq, if_pos rfl, works_true, Option.bind_some]
end Go.Proofs.YtealmnllljoolaaDoor.Pure
