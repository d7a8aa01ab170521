/- Words of this session's own: the builtin copy from a string into a row of bytes that the call made. -/
import Derived.Test.YtealmnllljoolaaDoorWWords
import Derived.Laws.CopyOwn
import Derived.Laws.CopyRow
import Derived.OwnWalk
import Derived.Lib.SlBytesConst
import Derived.Lib.Strings
namespace Go.Proofs.YtealmnllljoolaaDoor.Copy
open Go.RowKit Go.Proofs.YtealmnllljoolaaDoorW.PrintWords

/-- ys laid over xs from place 'off' on. -/
def over {α : Type} (xs : List α) (off : Nat) (ys : List α) : List α := xs.take off ++ (ys ++ xs.drop (off + ys.length))
theorem over_length {α : Type} {xs ys : List α} {off : Nat} (h : off + ys.length ≤ xs.length) : (over xs off ys).length = xs.length := by
  unfold over; simp; omega
theorem over_get {α : Type} {xs ys : List α} {off : Nat} (h : off + ys.length ≤ xs.length) (i : Nat) (d : α) :
    (over xs off ys).getD i d = if off ≤ i ∧ i < off + ys.length then ys.getD (i - off) d else xs.getD i d := by
  unfold over
  simp only [List.getD_eq_getElem?_getD, List.getElem?_append, List.length_take, List.getElem?_take, List.getElem?_drop]
  by_cases h1 : i < off
  · rw [if_pos (by omega), if_pos (by omega), if_neg (by omega)]
  · rw [if_neg (by omega), Nat.min_eq_left (by omega)]
    by_cases h2 : i - off < ys.length
    · rw [if_pos h2, if_pos (by omega)]
    · rw [if_neg h2, if_neg (by omega)]
      congr 2
      omega
theorem over_map {α β : Type} (f : α → β) (xs ys : List α) (off : Nat) : (over xs off ys).map f = over (xs.map f) off (ys.map f) := by
  unfold over; simp [List.map_take, List.map_drop]
/-- A string's bytes behind the numbers that told them. -/
theorem back_bytes (s : ByteArray) : (bytesOf s).map (fun n => UInt8.ofNat n.toNat) = s.data.toList := by
  unfold bytesOf
  rw [List.map_map]
  conv => rhs; rw [← List.map_id s.data.toList]
  apply List.map_congr_left
  intro b _
  simp
theorem ba_ext {a b : ByteArray} (h : a.data.toList = b.data.toList) : a = b := ByteArray.ext (Array.toList_inj.1 h)
theorem extract_list (s : ByteArray) (a b : Nat) : (s.extract a b).data.toList = (s.data.toList.drop a).take (b - a) := Lib.extract_data s a b
theorem bt_list (s : ByteArray) (i : Nat) : bt s (i : Int) = ((s.data.toList.getD i 0).toNat : Int) := by
  rw [← rd_bytesOf]
  unfold rd bytesOf
  rw [Int.toNat_natCast, List.getD_eq_getElem?_getD, List.getElem?_map, List.getD_eq_getElem?_getD]
  cases s.data.toList[i]? <;> rfl

/-- A row of bytes. -/
def byteCells (l : List UInt8) : List Value := l.map fun b => Value.int .u8 (b.toNat : Int)
theorem byteCells_length (l : List UInt8) : (byteCells l).length = l.length := by simp [byteCells]
theorem byteCells_nums (l : List UInt8) : byteCells l = nums .u8 (l.map fun b => (b.toNat : Int)) := by simp [byteCells, nums]
theorem byteCells_one (l : List UInt8) : ∀ v ∈ byteCells l, v.oneCell' = true := by
  intro v hv
  simp only [byteCells, List.mem_map] at hv
  obtain ⟨b, _, rfl⟩ := hv
  rfl

/-- 'copy(dst, s)', s a string of whatever length; n bytes go over. -/
theorem run_copy_min {P : Program} (w : World) (dT sT ty elem : TypeId) (g o dLen dCap : Nat) (s : ByteArray) (cur : Array Value) (t : TypeId) (n : Nat) (hn : Nat.min s.size dLen = n)
    (hu : P.underlying dT = some (.slice elem)) (hs : (P.info? elem).map (·.size) = some 1) (hg : w.heap[g]? = some (.cells cur t (0, 0))) (hfit : o + n ≤ cur.size) :
    (Builtin.copy_ #[dT, sT] ty #[.slice (some ⟨g, o, none⟩) dLen dCap, .string s]).run P w =
      .ok (goInt n) (w.setRow g (cur.toList.take o ++ (byteCells (s.data.toList.take n) ++ cur.toList.drop (o + n))).toArray) := by
  have hle : n ≤ s.size := by rw [← hn]; exact Nat.min_le_left _ _
  have hlen : (byteCells (s.data.toList.take n)).length = n := by rw [byteCells_length, List.length_take, data_length]; omega
  have hst := run_storeCells_at P g o t (byteCells (s.data.toList.take n)) 0 cur w hg (by rw [hlen]; simpa using hfit) (byteCells_one _)
  have htk : List.take n (List.map (fun b : UInt8 => Value.int IntKind.u8 (b.toNat : Int)) s.data.toList) = byteCells (s.data.toList.take n) := by
    simp only [byteCells, List.map_take]
  rw [hlen] at hst
  simp only [Nat.add_zero] at hst
  cases hq : P.info? elem with
  | none => simp [hq] at hs
  | some i =>
    simp [Builtin.copy_, run_underlying hu, Builtin.lenOf, Builtin.firstCells, sizeOf, typeInfo, hq, hn]
    rw [htk, hst]
    simp [Result.andThen]

/-- 'copy(dst, s)' where nothing goes over. -/
theorem run_copy_zero {P : Program} (w : World) (dT sT ty elem : TypeId) (d : Option Addr) (dLen dCap : Nat) (s : ByteArray)
    (hu : P.underlying dT = some (.slice elem)) (hs : ((P.info? elem).map (·.size)).isSome = true) (h0 : Nat.min s.size dLen = 0) :
    (Builtin.copy_ #[dT, sT] ty #[.slice d dLen dCap, .string s]).run P w = .ok (goInt 0) w := by
  cases hq : P.info? elem with
  | none => simp [hq] at hs
  | some i =>
    cases d <;> simp [Builtin.copy_, run_underlying hu, Builtin.lenOf, Builtin.firstCells, sizeOf, typeInfo, hq, h0, storeCells]

section
variable {P : Program} {ops : Array Oper} {rest : List Oper} {o : Oper} {a : Act} {Q : Exit → Act → World → Prop}
/-- The law at the call. -/
theorem copy_str {w0 W : World} (base : Nat) (hgd : o.guard = none) (d s : Operand) (dT sT e : TypeId)
    (ho : o.op = .call { callee := .builtin .copy, args := #[d, s], argTypes := #[dT, sT] }) (hu : P.underlying dT = some (.slice e)) (hsz : (P.info? e).map (fun i => i.size) = some 1)
    (g m cap : Nat) (xs : List Int) (off : Nat) (dp : Option Addr) (dl dc : Nat) (hd : a.eval d = .slice dp dl dc) (str : ByteArray) (hs : a.eval s = .string str)
    (n : Nat) (hn : Nat.min str.size dl = n) (hdp : 0 < n → dp = some ⟨g, off, none⟩) (hoff : off + n ≤ m)
    (HO : W.ownsRow base e 1 (.slice (some ⟨g, 0, none⟩) m cap) m (nums .u8 xs)) (HB : Below base w0 W)
    (h : ∀ w1, w1.ownsRow base e 1 (.slice (some ⟨g, 0, none⟩) m cap) m (nums .u8 (over xs off ((bytesOf str).take n))) → Below base w0 w1 → W.heap.size ≤ w1.heap.size → wpList P ops Q rest (a.put o.dst (goInt n)) w1) :
    wpList P ops Q (o :: rest) a W := by
  have hle : n ≤ str.size := by rw [← hn]; exact Nat.min_le_left _ _
  have hxl : xs.length = m := by have := HO.1; simp [nums] at this; exact this
  refine wpList_plain hgd fun K hK => ?_
  by_cases h0 : n = 0
  · subst h0
    have hrun := run_copy_zero (P := P) W dT sT o.type e dp dl dc str hu (by rw [Option.map_eq_some_iff] at hsz; obtain ⟨i, hi, _⟩ := hsz; simp [hi]) hn
    unfold Oper.wp
    simp [execOp, ho, resolve, invoke, builtin, hd, hs, hrun, Result.andThen]
    exact hK _ _ (h W (by
      have e1 : over xs off ((bytesOf str).take 0) = xs := by simp [over]
      rw [e1]; exact HO) HB (Nat.le_refl _))
  · obtain rfl := hdp (by omega)
    rcases HO.2 with ⟨h', _⟩ | ⟨g', cap', cur, h', hgb, hh, hmc, hcm, hcs, htk⟩
    · cases h'
    · have hgg : g = g' ∧ cap = cap' := by injection h' with h1 h2 h3; injection h1 with h1; injection h1 with h1; exact ⟨h1, h3⟩
      obtain ⟨rfl, rfl⟩ := hgg
      have hrun := run_copy_min (P := P) W dT sT o.type e g off dl dc str cur e n hn hu hsz hh (by omega)
      unfold Oper.wp
      simp only [execOp, ho, resolve, invoke, builtin, Sem.run_bind, Sem.run_pure, Result.andThen_ok, List.map_toArray, List.map_cons, List.map_nil, hd, hs, hrun]
      have hcl : cur.toList.length = cap := by simpa using hcs
      have hbl : (byteCells (str.data.toList.take n)).length = n := by rw [byteCells_length, List.length_take, data_length]; omega
      have hyl : ((bytesOf str).take n).length = n := by rw [List.length_take, bytesOf_length]; omega
      refine hK _ _ (h _ ⟨?_, .inr ⟨g, cap, _, rfl, hgb, setRow_heap W g _ _ e _ hh, hmc, hcm, ?_, ?_⟩⟩ (below_setRow HB hgb _) (by simp [World.setRow]))
      · rw [nums_length, over_length (by rw [hyl]; omega)]; omega
      · simp [hbl]; omega
      · have htk' : cur.toList.take m = nums .u8 xs := by simpa using htk
        rw [Nat.mul_one]
        show ((cur.toList.take off ++ (byteCells (str.data.toList.take n) ++ cur.toList.drop (off + n)))).take m = _
        have e1 : nums .u8 (over xs off ((bytesOf str).take n)) = (nums .u8 xs).take off ++ (byteCells (str.data.toList.take n) ++ (nums .u8 xs).drop (off + n)) := by
          unfold over
          rw [hyl, byteCells_nums]
          simp [nums, bytesOf, List.map_take, List.map_drop]
        rw [e1, ← htk', List.take_take, Nat.min_eq_left (by omega), List.drop_take, ← List.append_assoc, ← List.append_assoc, List.take_append, List.take_of_length_le (by simp [hbl]; omega)]
        congr 2
        simp [hbl]
        omega
end
end Go.Proofs.YtealmnllljoolaaDoor.Copy
/-- Short names for long rows of Bools. -/
abbrev Go.Proofs.YtealmnllljoolaaDoor.tt : Bool := true
abbrev Go.Proofs.YtealmnllljoolaaDoor.ff : Bool := false
