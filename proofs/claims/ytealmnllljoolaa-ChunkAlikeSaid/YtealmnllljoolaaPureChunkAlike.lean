/- A content has all chunks alike with itself, none with the empty one, and with one of which a byte was turned just those that do not hold it, either way round: chunk.Same and Count, for every string (up to the content's greatest size), every place and every byte. No condition. -/
import Derived.Test.YtealmnllljoolaaPChunkAlikex2
import Derived.Laws.BitsAllLaws
namespace Go.Proofs.Ytealmnllljoolaa.Pure
open Go.RowKit Go.Proofs.Ytealmnllljoolaa.PChunkAlike Go.Proofs.YtealmnllljoolaaW.PrintWords Go.Proofs.YtealmnllljoolaaW.PrintLast Go.Proofs.Ytealmnllljoolaa.Copy
namespace ChunkAlike

theorem works_true : aquiferlaw15_works.f = some true := by decide +kernel

theorem count (a1 : Nat) (h : a1 ≤ 4096) : chunk_Count.f (a1 : Int) = some (((a1 + 63) / 64 : Nat) : Int) := by
  unfold chunk_Count.f
  by_cases h0 : (a1 : Int) < 1
  · rw [if_pos h0]
    obtain rfl : a1 = 0 := by omega
    rfl
  · rw [if_neg h0]
    have e1 : wrap64 ((a1 : Int) - 1) = (a1 : Int) - 1 := by unfold wrap64; omega
    rw [e1, Int.tdiv_eq_ediv_of_nonneg (by omega)]
    have e2 : wrap64 (((a1 : Int) - 1) / 64) = ((a1 : Int) - 1) / 64 := by unfold wrap64; omega
    rw [e2]
    congr 1
    unfold wrap64
    omega

def eqAt (x y : List ByteArray) (i : Nat) : Bool := decide ((x.getD i ByteArray.empty).toList = (y.getD i ByteArray.empty).toList)
def alike (x y : List ByteArray) (n : Nat) : List Int := ((List.range n).filter (eqAt x y)).map fun i : Nat => (i : Int)
theorem alike_succ (x y : List ByteArray) (n : Nat) : alike x y (n + 1) = alike x y n ++ if (x.getD n ByteArray.empty).toList = (y.getD n ByteArray.empty).toList then [(n : Int)] else [] := by
  unfold alike
  rw [List.range_succ, List.filter_append, List.map_append]
  congr 1
  by_cases h : (x.getD n ByteArray.empty).toList = (y.getD n ByteArray.empty).toList
  · rw [if_pos h, List.filter_cons_of_pos (by unfold eqAt; exact decide_eq_true h)]
    rfl
  · rw [if_neg h, List.filter_cons_of_neg (by unfold eqAt; simpa using h)]
    rfl
theorem alike_length (x y : List ByteArray) (n : Nat) : (alike x y n).length ≤ n := by
  unfold alike
  rw [List.length_map]
  exact Nat.le_trans (List.length_filter_le _ _) (by simp)

theorem same_loop (x y : List ByteArray) (n : Nat) (hx : n ≤ x.length) (hy : n ≤ y.length) (hn : n ≤ 64) (r : Nat) : ∀ (k i : Nat), i ≤ n → n - i = r → r < k → chunk_Same.l0 k x y (alike x y i) n i = some (alike x y n) := by
  induction r with
  | zero =>
    intro k i hi hr hk
    obtain ⟨k, rfl⟩ : ∃ m, k = m + 1 := ⟨k - 1, by omega⟩
    obtain rfl : i = n := by omega
    simp only [chunk_Same.l0]
    rw [if_neg (by omega)]
  | succ r ih =>
    intro k i hi hr hk
    obtain ⟨k, rfl⟩ : ∃ m, k = m + 1 := ⟨k - 1, by omega⟩
    have hw : wrap64 ((i : Int) + 1) = ((i + 1 : Nat) : Int) := by unfold wrap64; omega
    have hn := ih k (i + 1) (by omega) (by omega) (by omega)
    have hl := alike_length x y i
    rw [alike_succ] at hn
    simp only [chunk_Same.l0]
    rw [if_pos (by omega), if_pos (by omega), if_pos (by omega), if_pos (by omega), hw]
    unfold rdOf
    rw [Int.toNat_natCast]
    by_cases h : (x.getD i ByteArray.empty).toList = (y.getD i ByteArray.empty).toList
    · rw [if_pos h, if_pos (by omega)]
      rw [if_pos h] at hn
      exact hn
    · rw [if_neg h]
      rw [if_neg h, List.append_nil] at hn
      exact hn

/-- A content's chunks. -/
def ch (s : ByteArray) : List ByteArray := chunk_Split.row s ((s.size + 63) / 64)
theorem ch_length (s : ByteArray) : (ch s).length = (s.size + 63) / 64 := chunk_Split.row_length s _
theorem same_some (a b : ByteArray) (ha : a.size ≤ 4096) (hb : b.size ≤ 4096) (k : Nat) (hk : 64 < k) : chunk_Same.f k a b = some (alike (ch a) (ch b) (min ((a.size + 63) / 64) ((b.size + 63) / 64))) := by
  unfold chunk_Same.f chunk_Split.f
  rw [if_pos (by omega), if_pos (by omega)]
  simp only [Option.bind_some]
  have hm : mn ((chunk_Split.row a ((a.size + 63) / 64)).length : Int) ((chunk_Split.row b ((b.size + 63) / 64)).length : Int) = ((min ((a.size + 63) / 64) ((b.size + 63) / 64) : Nat) : Int) := by
    rw [chunk_Split.row_length, chunk_Split.row_length]
    unfold mn
    split <;> omega
  rw [hm]
  exact same_loop (ch a) (ch b) _ (by rw [ch_length]; omega) (by rw [ch_length]; omega) (by omega) _ k 0 (by omega) rfl (by omega)

theorem nums_loop (x : List Int) (hx : x.length ≤ 64) (r : Nat) : ∀ (k i : Nat), i ≤ x.length → x.length - i = r → r < k → aquiferref15_SameNums.l0 k x x i = some true := by
  induction r with
  | zero =>
    intro k i hi hr hk
    obtain ⟨k, rfl⟩ : ∃ m, k = m + 1 := ⟨k - 1, by omega⟩
    simp only [aquiferref15_SameNums.l0]
    rw [if_neg (by omega)]
  | succ r ih =>
    intro k i hi hr hk
    obtain ⟨k, rfl⟩ : ∃ m, k = m + 1 := ⟨k - 1, by omega⟩
    have hw : wrap64 ((i : Int) + 1) = ((i + 1 : Nat) : Int) := by unfold wrap64; omega
    have hn := ih k (i + 1) (by omega) (by omega) (by omega)
    simp only [aquiferref15_SameNums.l0]
    rw [if_pos (by omega), if_pos (by omega), if_pos (by omega), if_true, hw]
    exact hn
theorem nums_same (x : List Int) (hx : x.length ≤ 64) (k : Nat) (hk : 64 < k) : aquiferref15_SameNums.f k x x = some true := by
  unfold aquiferref15_SameNums.f
  rw [if_pos rfl]
  exact nums_loop x hx x.length k 0 (by omega) (by omega) (by omega)

theorem alike_self (x : List ByteArray) (n : Nat) : (alike x x n).length = n := by
  unfold alike
  rw [List.filter_eq_self.2 (fun i _ => by unfold eqAt; simp)]
  simp
theorem alike_comm (x y : List ByteArray) (n : Nat) : alike x y n = alike y x n := by
  have e : eqAt x y = eqAt y x := by
    funext i
    unfold eqAt
    rw [Bool.eq_iff_iff, decide_eq_true_eq, decide_eq_true_eq]
    exact eq_comm
  unfold alike
  rw [e]

theorem row_get (s : ByteArray) (j : Nat) (h : j < (s.size + 63) / 64) : (ch s).getD j ByteArray.empty = chunk_Split.at_ s j := by
  unfold ch chunk_Split.row
  rw [List.getD_eq_getElem?_getD, List.getElem?_map, List.getElem?_range h]
  rfl
theorem at_list (s : ByteArray) (j : Nat) : (chunk_Split.at_ s j).data.toList = (s.data.toList.drop (64 * j)).take 64 := by
  unfold chunk_Split.at_
  rw [extract_list]
  congr 1
  omega

/-- One byte turned: the chunk that holds it is another, all else are as they were. -/
theorem eq_at (a b : ByteArray) (p : Nat) (c : UInt8) (hp : p < a.size) (hb : b.data.toList = a.data.toList.set p c) (hc : a.data.toList[p]? ≠ some c) (i : Nat) (hi : i < (a.size + 63) / 64) :
    eqAt (ch a) (ch b) i = decide (i ≠ p / 64) := by
  have hbs : b.size = a.size := by rw [← data_length, hb, List.length_set, data_length]
  unfold eqAt
  rw [row_get a i hi, row_get b i (by rw [hbs]; exact hi), ByteArray.toList_eq, ByteArray.toList_eq, at_list, at_list, hb, Bool.eq_iff_iff, decide_eq_true_eq, decide_eq_true_eq]
  have get (L : List UInt8) (j : Nat) : ((L.drop (64 * i)).take 64)[j]? = if j < 64 then L[64 * i + j]? else none := by
    rw [List.getElem?_take, List.getElem?_drop]
  constructor
  · intro h hq
    have h1 : ((a.data.toList.drop (64 * i)).take 64)[p - 64 * i]? = (((a.data.toList.set p c).drop (64 * i)).take 64)[p - 64 * i]? := by rw [h]
    rw [get, get, if_pos (by omega), if_pos (by omega), show 64 * i + (p - 64 * i) = p by omega, List.getElem?_set_self (by rw [data_length]; exact hp)] at h1
    exact hc h1
  · intro h
    apply List.ext_getElem?
    intro j
    rw [get, get]
    split
    · rw [List.getElem?_set_ne (by omega)]
    · rfl

theorem filter_ne (n q : Nat) (hq : q < n) : ((List.range n).filter fun i => decide (i ≠ q)).length = n - 1 := by
  have h1 : ((List.range n).filter fun i => decide (i ≠ q)) = (List.range n).erase q := by
    rw [List.Nodup.erase_eq_filter List.nodup_range q]
    congr 1
    funext i
    by_cases h : i = q <;> simp [h]
  rw [h1, List.length_erase_of_mem (List.mem_range.2 hq), List.length_range]

theorem alike_turned (a b : ByteArray) (p : Nat) (c : UInt8) (hp : p < a.size) (hb : b.data.toList = a.data.toList.set p c) (hc : a.data.toList[p]? ≠ some c) :
    alike (ch a) (ch b) ((a.size + 63) / 64) = ((List.range ((a.size + 63) / 64)).filter fun i => decide (i ≠ p / 64)).map fun i : Nat => (i : Int) := by
  unfold alike
  congr 1
  apply List.filter_congr
  intro i hi
  exact eq_at a b p c hp hb hc i (List.mem_range.1 hi)

theorem index_ok (a : Int) (m : Nat) (h1 : 1 ≤ m) (h2 : m ≤ 4096) : ∃ k : Nat, Int.tmod (wrap64 (Int.tmod a m + m)) m = k ∧ k < m := by
  have hb : -(m : Int) < a.tmod m ∧ a.tmod m < m := by
    have := Int.tmod_lt_of_pos a (show (0 : Int) < m by omega)
    have := Int.lt_tmod_of_pos a (show (0 : Int) < m by omega)
    omega
  have hw : wrap64 (Int.tmod a m + m) = Int.tmod a m + m := by unfold wrap64; omega
  rw [hw, Int.tmod_eq_emod_of_nonneg (by omega)]
  obtain ⟨k, hk⟩ := Int.eq_ofNat_of_zero_le (Int.emod_nonneg (Int.tmod a m + m) (show (m : Int) ≠ 0 by omega))
  have := Int.emod_lt_of_pos (Int.tmod a m + m) (show (0 : Int) < m by omega)
  exact ⟨k, hk, by omega⟩

theorem turned_byte (x : UInt8) (c : Int) (h0 : 0 ≤ c) (h1 : c < 256) : x ≠ UInt8.ofNat (bits .xor .u8 (x.toNat : Int) (bits .or .u8 c 1)).toNat := by
  have hx := x.toNat_lt
  have ho := u8_or c 1 h0 h1 (by omega) (by omega)
  have hlt : c.toNat ||| 1 < 256 := Nat.or_lt_two_pow (n := 8) (by omega) (by omega)
  have hne : c.toNat ||| 1 ≠ 0 := by
    intro h
    have := (Nat.or_eq_zero_iff.1 h).2
    omega
  rw [ho, show ((1 : Int).toNat) = 1 from rfl, u8_xor_nat x.toNat (c.toNat ||| 1) (by omega) hlt, Int.toNat_natCast]
  intro h
  have h2 : x.toNat = x.toNat ^^^ (c.toNat ||| 1) := by
    have := congrArg UInt8.toNat h
    rw [UInt8.toNat_ofNat', Nat.mod_eq_of_lt (Nat.xor_lt_two_pow (n := 8) hx hlt)] at this
    exact this
  apply hne
  have h3 : x.toNat ^^^ x.toNat = x.toNat ^^^ (x.toNat ^^^ (c.toNat ||| 1)) := by rw [← h2]
  rw [Nat.xor_self, ← Nat.xor_assoc, Nat.xor_self, Nat.zero_xor] at h3
  exact h3.symm

theorem loop_true (s b : ByteArray) (p : Nat) (l : List Int) (hs : s.size ≤ 4096) (hp : p < s.size) (hb : b.size = s.size) (hl : alike (ch s) (ch b) ((s.size + 63) / 64) = l) (hll : l.length + 1 = (s.size + 63) / 64) (hlq : ∀ j : Nat, j < l.length → rd l j ≠ ((p / 64 : Nat) : Int)) (r : Nat) :
    ∀ (k i : Nat), i ≤ l.length → l.length - i = r → r + 66 < k → aquiferlaw15_ChunkAlike.l0 k s p b l l l.length i = some true := by
  induction r with
  | zero =>
    intro k i hi hr hk
    obtain ⟨k, rfl⟩ : ∃ m, k = m + 1 := ⟨k - 1, by omega⟩
    simp only [aquiferlaw15_ChunkAlike.l0]
    have hw : wrap64 ((((s.size + 63) / 64 : Nat) : Int) - 1) = (l.length : Int) := by unfold wrap64; omega
    rw [if_neg (by omega), count s.size hs]
    simp only [Option.bind_some]
    rw [if_pos hw.symm, same_some b s (by omega) hs k (by omega), hb, Nat.min_self, alike_comm, hl]
    simp only [Option.bind_some]
    rw [nums_same l (by omega) k (by omega)]
    simp only [Option.bind_some, if_true]
    rw [works_true]
    rfl
  | succ r ih =>
    intro k i hi hr hk
    obtain ⟨k, rfl⟩ : ∃ m, k = m + 1 := ⟨k - 1, by omega⟩
    have hw : wrap64 ((i : Int) + 1) = ((i + 1 : Nat) : Int) := by unfold wrap64; omega
    have hq : wrap64 (Int.tdiv (p : Int) 64) = ((p / 64 : Nat) : Int) := by
      rw [Int.tdiv_eq_ediv_of_nonneg (by omega)]
      unfold wrap64
      omega
    have hn := ih k (i + 1) (by omega) (by omega) (by omega)
    simp only [aquiferlaw15_ChunkAlike.l0]
    rw [if_pos (by omega), if_pos (by omega), if_pos (by omega), hq, if_neg (hlq i (by omega)), hw]
    exact hn
end ChunkAlike
open ChunkAlike in
theorem ChunkAlike : aquiferlaw15_ChunkAlike.Pure := by
  intro a0 a1 a2 _ _ h8
  have hb8 : 0 ≤ a2 ∧ a2 < 256 := by
    simp [Lit.wf, IntKind.min, IntKind.max, IntKind.signed, IntKind.bits] at h8
    omega
  unfold aquiferlaw15_ChunkAlike.f
  have hm : 0 ≤ mn (a0.size : Int) 4096 ∧ mn (a0.size : Int) 4096 ≤ a0.size ∧ mn (a0.size : Int) 4096 ≤ 4096 := by
    unfold mn
    split <;> omega
  refine ⟨200, ?_⟩
  rw [if_pos hm.1, if_pos hm.2.1]
  obtain ⟨s, hs⟩ : ∃ s, a0.extract 0 (mn (a0.size : Int) 4096).toNat = s := ⟨_, rfl⟩
  have hs4 : s.size ≤ 4096 := by rw [← hs, ByteArray.size_extract]; omega
  rw [hs, same_some s s hs4 hs4 200 (by omega)]
  simp only [Option.bind_some]
  rw [count s.size hs4]
  simp only [Option.bind_some]
  rw [Nat.min_self, alike_self, if_pos rfl, same_some s ⟨#[]⟩ hs4 (by decide) 200 (by omega)]
  simp only [Option.bind_some, aquiferlaw15_ChunkAlike.j0]
  have e0 : min ((s.size + 63) / 64) (((⟨#[]⟩ : ByteArray).size + 63) / 64) = 0 := Nat.min_eq_right (Nat.zero_le _)
  rw [e0]
  have e1 : alike (ch s) (ch ⟨#[]⟩) 0 = [] := rfl
  rw [e1, if_neg (by decide)]
  by_cases h0 : s.size = 0
  · rw [if_pos (by omega), works_true]
    rfl
  rw [if_neg (by omega)]
  obtain ⟨p, hp, hps⟩ := index_ok a1 s.size (by omega) hs4
  have hw : wrap64 ((p : Int) + 1) = ((p + 1 : Nat) : Int) := by unfold wrap64; omega
  rw [hp, hw]
  simp only [Int.toNat_natCast]
  obtain ⟨c, hc⟩ : ∃ c : UInt8, UInt8.ofNat (bits .xor .u8 (bt s p) (bits .or .u8 a2 1)).toNat = c := ⟨_, rfl⟩
  have hbt : bt s p = ((s.data.toList[p]'(by rw [data_length]; exact hps)).toNat : Int) := by
    rw [bt_list, List.getD_eq_getElem?_getD, List.getElem?_eq_getElem (by rw [data_length]; exact hps)]
    rfl
  have hne : s.data.toList[p]? ≠ some c := by
    rw [List.getElem?_eq_getElem (by rw [data_length]; exact hps), ← hc, hbt]
    intro h
    exact turned_byte _ a2 hb8.1 hb8.2 (Option.some.inj h)
  obtain ⟨b, hb⟩ : ∃ b, s.extract 0 p ++ strOfNums [bits .xor .u8 (bt s p) (bits .or .u8 a2 1)] ++ s.extract (p + 1) s.size = b := ⟨_, rfl⟩
  have hbl : b.data.toList = s.data.toList.set p c := by
    rw [← hb, ByteArray.data_append, Array.toList_append, ByteArray.data_append, Array.toList_append, extract_list, extract_list, strOfNums_data, List.set_eq_take_append_cons_drop, if_pos (by rw [data_length]; exact hps)]
    simp only [List.drop_zero, Nat.sub_zero, List.map_cons, List.map_nil, hc]
    have e2 : List.take (s.size - (p + 1)) (List.drop (p + 1) s.data.toList) = List.drop (p + 1) s.data.toList := List.take_of_length_le (by rw [List.length_drop, data_length]; omega)
    rw [e2, List.append_assoc]
    rfl
  have hbs : b.size = s.size := by rw [← data_length, hbl, List.length_set, data_length]
  have hsz : (strOfNums [bits .xor .u8 (bt s p) (bits .or .u8 a2 1)]).size = 1 := by rw [strOfNums_size]; rfl
  have hx1 : (s.extract 0 p).size = p := by rw [ByteArray.size_extract]; omega
  have hx2 : (s.extract (p + 1) s.size).size = s.size - (p + 1) := by rw [ByteArray.size_extract]; omega
  rw [if_pos (by omega), if_pos (by omega), if_pos (by omega), if_pos (by omega), if_pos (by omega), if_pos (by omega), if_pos (by rw [ByteArray.size_append]; omega), hb, same_some s b hs4 (by omega) _ (by omega), hbs, Nat.min_self]
  simp only [Option.bind_some]
  have hal := alike_turned s b p c hps hbl hne
  have hlen : (alike (ch s) (ch b) ((s.size + 63) / 64)).length + 1 = (s.size + 63) / 64 := by
    rw [hal, List.length_map, filter_ne _ _ (by omega)]
    omega
  refine loop_true s b p _ hs4 hps hbs rfl hlen (fun j hj => ?_) _ _ 0 (by omega) rfl (by omega)
  unfold rd
  rw [Int.toNat_natCast, hal]
  rw [hal] at hj
  rw [List.getD_eq_getElem?_getD, List.getElem?_eq_getElem hj]
  have hmem := List.getElem_mem hj
  simp only [List.mem_map, List.mem_filter, decide_eq_true_eq] at hmem
  obtain ⟨q, ⟨_, hq⟩, hqe⟩ := hmem
  intro hcon
  apply hq
  have : (q : Int) = ((p / 64 : Nat) : Int) := by rw [hqe]; exact hcon
  omega

end Go.Proofs.Ytealmnllljoolaa.Pure
