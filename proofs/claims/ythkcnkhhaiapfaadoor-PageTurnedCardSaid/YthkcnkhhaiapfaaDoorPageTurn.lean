/- PageTurned: the walk, by hand: bytes of a page are turned in the call's own copy; then the page is opened. -/
import Derived.Test.YthkcnkhhaiapfaaDoorPPageAllx28
import Derived.Test.YthkcnkhhaiapfaaDoorPPageAllx30
import Derived.Test.YthkcnkhhaiapfaaDoorPagePure
namespace Go.Proofs.YthkcnkhhaiapfaaDoor.Page
open Go Go.RowKit Go.Proofs.YthkcnkhhaiapfaaDoorW.PrintWords Go.Proofs.YthkcnkhhaiapfaaDoorW.PrintLast Go.Proofs.YthkcnkhhaiapfaaDoorW.PrintMore
/-- Bytes that a conversion has laid, with what lies behind them. -/
def CArr (w : World) (g : Nat) (sp : List Value) (m : List Nat) : Prop := w.heap[g]? = some (.cells (bd m ++ sp).toArray 5 ((bd m ++ sp).length, (bd m ++ sp).length + 1))
section
variable {w w1 : World} {g : Nat} {sp : List Value} {m : List Nat}
theorem CArr.lt (h : CArr w g sp m) : g < w.heap.size := (Array.getElem?_eq_some_iff.1 h).1
theorem CArr.cell (h : CArr w g sp m) {i : Nat} (hi : i < m.length) : w.cell? ⟨g, i, none⟩ = some (.int .u8 ((m.getD i 0 : Nat) : Int)) := by
  unfold CArr at h
  simp [World.cell?, h, bd, List.getD_eq_getElem?_getD, List.getElem?_append, hi]
theorem CArr.frozen (h : CArr w g sp m) {i : Nat} (hi : i < m.length) : w.frozen? ⟨g, i, none⟩ = false := by
  unfold CArr at h
  have := bd_length m
  simp [World.frozen?, h]
  omega
theorem CArr.set_ (h : CArr w g sp m) {i : Nat} (hi : i < m.length) (x : Nat) : CArr (w.setCell ⟨g, i, none⟩ (.int .u8 (x : Int))) g sp (m.set i x) := by
  unfold CArr at h ⊢
  have hl := bd_length m
  simp [World.setCell, Array.getElem?_modify, h, bd, List.map_set, hi]
theorem CArr.drewN (h : CArr w g sp m) (n : Nat) : CArr (w.drewN n) g sp m := h
theorem CArr.reads (h : CArr w g sp m) (hm : m.length < 9223372036854775807) : ReadsInt w .u8 (some ⟨g, 0, none⟩) m.length (Crc.ints m) := by
  refine ⟨Crc.ints_length m, by omega, fun _ => ⟨_, rfl, fun j hj => ?_⟩⟩
  rw [add_plain]
  rw [h.cell hj]
  unfold Crc.ints
  simp only [List.getD_eq_getElem?_getD, List.getElem?_map]
  rw [List.getElem?_eq_getElem hj]
  rfl
theorem CArr.new (w : World) (s : ByteArray) : ∃ sp, CArr (Lib.bytesWorld w 5 s) w.heap.size sp (nb s) := by
  refine ⟨List.replicate (grownCap w s.size 0 5 - s.size) (.int .u8 0), ?_⟩
  have h := Lib.bytesWorld_at_new w 5 s
  have e : Lib.bytesCells w 5 s = (bd (nb s) ++ List.replicate (grownCap w s.size 0 5 - s.size) (Value.int .u8 0)).toArray := by
    apply Array.toList_inj.1
    unfold Lib.bytesCells bd nb
    simp [Function.comp_def]
  rw [e] at h
  unfold CArr
  rw [h, List.size_toArray]
end
/-! ### bits that are turned -/
theorem u64_nat {i : Nat} (h : i < 100) : IntKind.u64.wrap (i : Int) = (i : Int) := by rw [IntKind.wrap_u64]; omega
theorem bit_of {c i : Nat} (hc : c < 4294967296) (hi : i < 32) : Go.bits .and .u32 (shr .u32 (c : Int) (i : Int)) 1 = ((c / 2 ^ i % 2 : Nat) : Int) := by
  have e : shr .u32 (c : Int) (i : Int) = ((c / 2 ^ i : Nat) : Int) := by
    unfold shr
    rw [Int.toNat_natCast, Nat.min_eq_left (show i ≤ IntKind.u32.bits by simp [IntKind.bits]; omega), Int.natCast_ediv]
    simp
  rw [e, Crc.walk_bit (Nat.lt_of_le_of_lt (Nat.div_le_self _ _) hc)]
theorem shl_of {j : Nat} (hj : j < 8) : shl .u8 1 (j : Int) = ((2 ^ j : Nat) : Int) := by
  have : ∀ q : Fin 8, shl .u8 1 ((q.val : Nat) : Int) = ((2 ^ q.val : Nat) : Int) := by decide +kernel
  exact this ⟨j, hj⟩
/-- 'b' is 'a', turned from the bit 'p' on by the lowest 'i' bits of 'c'. -/
structure Inv (a b : List Nat) (p c i : Nat) : Prop where
  by_ : Crc.By b
  len : b.length = a.length
  val : Crc.val b = Crc.val a ^^^ 2 ^ p * (c % 2 ^ i)
  same : c % 2 ^ i = 0 → b = a
theorem Inv.start {a : List Nat} (ha : Crc.By a) (p c : Nat) : Inv a a p c 0 := ⟨ha, rfl, by rw [Nat.pow_zero, Nat.mod_one, Nat.mul_zero, Nat.xor_zero], fun _ => rfl⟩
theorem Inv.turn {a b : List Nat} {p c i : Nat} (h : Inv a b p c i) (hin : p + i < 8 * a.length) (hb : c / 2 ^ i % 2 = 1) :
    Inv a (b.set ((p + i) / 8) (b.getD ((p + i) / 8) 0 ^^^ 2 ^ ((p + i) % 8))) p c (i + 1) ∧ c % 2 ^ (i + 1) ≠ 0 := by
  have hx := Crc.bit_xor c i
  rw [if_pos hb] at hx
  have hj : (p + i) % 8 < 8 := Nat.mod_lt _ (by decide)
  have hp2 : 2 ^ ((p + i) % 8) < 256 := Nat.pow_lt_pow_right (a := 2) (n := 8) (by decide) hj
  have hn : c % 2 ^ (i + 1) ≠ 0 := by
    intro h0
    rw [Nat.mod_pow_succ, hb] at h0
    have := Nat.two_pow_pos i
    omega
  refine ⟨⟨fun x hx => ?_, by rw [List.length_set, h.len], ?_, fun h0 => absurd h0 hn⟩, hn⟩
  · rcases List.mem_or_eq_of_mem_set hx with hx | rfl
    · exact h.by_ x hx
    · exact Nat.xor_lt_two_pow (n := 8) (h.by_.get _) hp2
  · rw [Crc.val_set _ _ _ (by rw [h.len]; omega), h.val, hx, Crc.pow_xor, ← Nat.pow_add, Nat.xor_assoc, show 8 * ((p + i) / 8) + (p + i) % 8 = p + i by omega]
theorem Inv.keep {a b : List Nat} {p c i : Nat} (h : Inv a b p c i) (hb : ¬ c / 2 ^ i % 2 = 1) : Inv a b p c (i + 1) ∧ c % 2 ^ (i + 1) = c % 2 ^ i := by
  have hx := Crc.bit_xor c i
  rw [if_neg hb, Nat.xor_zero] at hx
  exact ⟨⟨h.by_, h.len, by rw [hx]; exact h.val, by rw [hx]; exact h.same⟩, hx⟩
/-! ### the sum's test over a whole page -/
theorem val4 {l : List Nat} (h : Crc.By l) (hl : l.length = 4) : Crc.val l = num4 l := by
  match l, hl with
  | [a, b, c, d], _ =>
    have ha := h a (by simp)
    have hb := h b (by simp)
    have hc := h c (by simp)
    show a ^^^ 2 ^ 8 * (b ^^^ 2 ^ 8 * (c ^^^ 2 ^ 8 * (d ^^^ 2 ^ 8 * 0))) = a + 256 * b + 65536 * c + 16777216 * d
    have e : ∀ x y : Nat, x < 2 ^ 8 → x ^^^ 2 ^ 8 * y = 2 ^ 8 * y + x := fun x y hx => by rw [Nat.xor_comm, Crc.split_xor 8 y x hx]
    rw [Nat.mul_zero, Nat.xor_zero, e c d (by omega), e b _ (by omega), e a _ (by omega)]
    omega
theorem it_z_inj {n x y : Nat} (hx : x < 4294967296) (hy : y < 4294967296) (h : Crc.it Crc.z n x = Crc.it Crc.z n y) : x = y := by
  refine Crc.xor_zero_eq (Crc.it_inj (8 * n) (Crc.xor_lt hx hy) ?_)
  rw [← Crc.it_z_step, (Crc.it_lin Crc.z_lin n).add, h, Nat.xor_self]
theorem test_iff {l : List Nat} (h : Crc.By l) (hl : l.length = 512) : Crc.upd 0 (l.take 508) = num4 (l.drop 508) ↔ Crc.it Crc.z 512 (4294967295 ^^^ Crc.val l) = Crc.it Crc.z 4 4294967295 := by
  have hd : (l.drop 508).length = 4 := by rw [List.length_drop, hl]
  have hr := Crc.feed_lt (r := 4294967295) (by decide) (l.take 508) (h.take 508)
  have hv := num4_lt (h.drop 508)
  have e := Crc.feed_val l 4294967295
  rw [hl] at e
  rw [← e]
  conv => rhs; lhs; rw [← List.take_append_drop 508 l]
  rw [Crc.feed_append, Crc.feed_val (l.drop 508), hd, val4 (h.drop 508) hd]
  unfold Crc.upd
  rw [Nat.xor_zero]
  generalize Crc.feed 4294967295 (l.take 508) = r at *
  generalize num4 (l.drop 508) = v at *
  constructor
  · rintro rfl
    congr 1
    rw [Nat.xor_comm 4294967295 r, Crc.xor_self_cancel]
  · intro h
    have := it_z_inj (Crc.xor_lt hr hv) (by decide) h
    rw [← this, Nat.xor_comm r v, Nat.xor_assoc, Nat.xor_self, Nat.xor_zero]
theorem turned_iff {a b : List Nat} {p c : Nat} (ha : Crc.By a) (hb : Crc.By b) (hla : a.length = 512) (hl : b.length = a.length) (hv : Crc.val b = Crc.val a ^^^ 2 ^ p * c) (hc : c < 4294967296) (hp : p ≤ 4096) (ht : Crc.upd 0 (a.take 508) = num4 (a.drop 508)) :
    Crc.upd 0 (b.take 508) = num4 (b.drop 508) ↔ c = 0 := by
  rw [test_iff hb (by omega), hv, ← Nat.xor_assoc, (Crc.it_lin Crc.z_lin 512).add, (test_iff ha hla).1 ht]
  constructor
  · intro h
    refine Crc.burst (n := 512) hc (by omega) ?_
    have := congrArg (fun v => Crc.it Crc.z 4 4294967295 ^^^ v) h
    simpa only [Crc.xor_self_cancel, Nat.xor_self] using this
  · rintro rfl
    rw [Nat.mul_zero, (Crc.it_lin Crc.z_lin 512).zero, Nat.xor_zero]
theorem opened_turned {a b : List Nat} {p c : Nat} {a0 : Int} (ha : Crc.By a) (hb : Crc.By b) (hla : a.length = 512) (hl : b.length = a.length) (hv : Crc.val b = Crc.val a ^^^ 2 ^ p * c) (hc : c < 4294967296) (hp : p ≤ 4096) (ht : Crc.upd 0 (a.take 508) = num4 (a.drop 508)) (h0 : c ≠ 0) :
    opened a0 (str b) = some (0, ⟨#[]⟩, 6) := by
  unfold opened
  rw [if_neg (by rw [str_size]; omega), nb_str hb, if_pos (fun h => h0 ((turned_iff ha hb hla hl hv hc hp ht).1 h))]
end Go.Proofs.YthkcnkhhaiapfaaDoor.Page
