/- The sum's own arithmetic, in plain numbers: nibble by nibble, as the program has it. -/
import Derived.Test.YthkcnkhhaiapfaaDoorWWords
import Derived.Laws.BitsAllLaws
namespace Go.Proofs.YthkcnkhhaiapfaaDoor.Crc
def tab : List Nat := [0, 274646895, 549293790, 820201905, 1098587580, 1361435347, 1640403810, 1905808397, 2197175160, 2460548119, 2722870694, 2987750089, 3280807620, 3553878443, 3811616794, 4084100981]
def half (i : Nat) : Nat := tab.getD i 0
def nib (r : Nat) : Nat := (r / 16) ^^^ half (r % 16)
def byte (r x : Nat) : Nat := nib (nib (r ^^^ x))
def feed (r : Nat) (l : List Nat) : Nat := l.foldl byte r
def upd (s : Nat) (l : List Nat) : Nat := 4294967295 ^^^ feed (4294967295 ^^^ s) l
theorem half_lt (i : Nat) : half i < 4294967296 := by
  unfold half
  rcases Nat.lt_or_ge i 16 with h | h
  · have : ∀ j : Fin 16, tab.getD j.val 0 < 4294967296 := by decide +kernel
    exact this ⟨i, h⟩
  · rw [List.getD_eq_getElem?_getD, List.getElem?_eq_none (by simpa [tab] using h)]
    decide
theorem xor_lt {a b : Nat} (ha : a < 4294967296) (hb : b < 4294967296) : a ^^^ b < 4294967296 := Nat.xor_lt_two_pow (n := 32) ha hb
theorem nib_lt {r : Nat} (h : r < 4294967296) : nib r < 4294967296 := xor_lt (by omega) (half_lt _)
theorem byte_lt {r x : Nat} (h : r < 4294967296) (hx : x < 256) : byte r x < 4294967296 := nib_lt (nib_lt (xor_lt h (by omega)))
theorem feed_snoc (r : Nat) (l : List Nat) (x : Nat) : feed r (l ++ [x]) = byte (feed r l) x := by unfold feed; rw [List.foldl_append]; rfl
theorem feed_lt {r : Nat} (h : r < 4294967296) (l : List Nat) (hl : ∀ x ∈ l, x < 256) : feed r l < 4294967296 := by
  unfold feed
  induction l generalizing r with
  | nil => exact h
  | cons x l ih => exact ih (byte_lt h (hl x (by simp))) (fun y hy => hl y (by simp [hy]))
theorem upd_lt {s : Nat} (h : s < 4294967296) (l : List Nat) (hl : ∀ x ∈ l, x < 256) : upd s l < 4294967296 := xor_lt (by decide) (feed_lt (xor_lt (by decide) h) l hl)

/-! ### arrays of thirty-two words -/
def tms (m : List Nat) (r : Nat) : Nat → Nat
  | 0 => 0
  | n + 1 => tms m r n ^^^ (if r / 2 ^ n % 2 = 1 then m.getD n 0 else 0)
def twc (m : List Nat) : List Nat := (List.range 32).map fun i => tms m (m.getD i 0) 32
def one : List Nat := 2197175160 :: (List.range 31).map fun i => 2 ^ i
/-- An array of thirty-two words. -/
structure Ok (m : List Nat) : Prop where
  len : m.length = 32
  lt : ∀ i, m.getD i 0 < 4294967296
theorem tms_lt {m : List Nat} (h : Ok m) (r : Nat) : ∀ n, tms m r n < 4294967296
  | 0 => by simp [tms]
  | n + 1 => by
    rw [tms]
    refine xor_lt (tms_lt h r n) ?_
    split
    · exact h.lt n
    · decide
theorem tms_end (m : List Nat) (r i : Nat) (h : r / 2 ^ i = 0) : ∀ k, tms m r (i + k) = tms m r i
  | 0 => rfl
  | k + 1 => by
    rw [← Nat.add_assoc, tms, tms_end m r i h k]
    have : r / 2 ^ (i + k) = 0 := by rw [Nat.pow_add, ← Nat.div_div_eq_div_mul, h, Nat.zero_div]
    rw [this, if_neg (by decide), Nat.xor_zero]
theorem twc_ok {m : List Nat} (h : Ok m) : Ok (twc m) := by
  refine ⟨by simp [twc], fun i => ?_⟩
  unfold twc
  rw [List.getD_eq_getElem?_getD, List.getElem?_map]
  rcases Nat.lt_or_ge i 32 with hi | hi
  · rw [List.getElem?_range hi]
    exact tms_lt h _ _
  · rw [List.getElem?_eq_none (by simpa using hi)]
    exact Nat.zero_lt_succ _
theorem one_ok : Ok one := by
  refine ⟨by simp [one], fun i => ?_⟩
  rcases Nat.lt_or_ge i 32 with hi | hi
  · have : ∀ j : Fin 32, one.getD j.val 0 < 4294967296 := by decide +kernel
    exact this ⟨i, hi⟩
  · rw [List.getD_eq_getElem?_getD, List.getElem?_eq_none (by simpa [one] using hi)]
    decide

/-- What so many noughts make of a register: the array is squared on and on. -/
def shf : Nat → List Nat → Nat → Nat → Nat
  | 0, _, r, _ => r
  | k + 1, m, r, n => if n = 0 then r else shf k (twc m) (if n % 2 = 1 then tms m r 32 else r) (n / 2)
def eight : List Nat := twc (twc (twc one))
def shift (r n : Nat) : Nat := shf 64 eight r n
theorem shf_lt : ∀ (k : Nat) {m : List Nat} (_ : Ok m) {r : Nat} (_ : r < 4294967296) (n : Nat), shf k m r n < 4294967296
  | 0, _, _, _, hr, _ => hr
  | k + 1, m, h, r, hr, n => by
    rw [shf]
    split
    · exact hr
    · refine shf_lt k (twc_ok h) ?_ _
      split
      · exact tms_lt h _ _
      · exact hr
theorem eight_ok : Ok eight := twc_ok (twc_ok (twc_ok one_ok))
theorem shift_lt {r : Nat} (h : r < 4294967296) (n : Nat) : shift r n < 4294967296 := shf_lt 64 eight_ok h n

/-! ### the forms in which the walk meets it -/
open Go
theorem walk_not {s : Nat} (h : s < 4294967296) : bits .xor .u32 IntKind.u32.max (s : Int) = ((4294967295 ^^^ s : Nat) : Int) := by
  have e : IntKind.u32.max = ((4294967295 : Nat) : Int) := by decide
  rw [e]
  exact u32_xor_nat _ _ (by decide) h
theorem walk_byte {x : Nat} (h : x < 256) : IntKind.u32.wrap (x : Int) = (x : Int) := by rw [IntKind.wrap_u32']; omega
theorem walk_and {r : Nat} (h : r < 4294967296) : bits .and .u32 (r : Int) 15 = ((r % 16 : Nat) : Int) := by
  have e := u32_and_nat r 15 h (by decide)
  rw [nat_mask4] at e
  exact e
theorem walk_bit {r : Nat} (h : r < 4294967296) : bits .and .u32 (r : Int) 1 = ((r % 2 : Nat) : Int) := by
  have e := u32_and_nat r 1 h (by decide)
  rw [nat_mask1] at e
  exact e
theorem walk_bit64 (n : Nat) (h : n < 9223372036854775808) : bits .and .i64 (n : Int) 1 = ((n % 2 : Nat) : Int) := by
  have hx : n % 2 < 2 := Nat.mod_lt _ (by decide)
  show IntKind.i64.wrap ((BitVec.ofInt 64 (n : Int) &&& BitVec.ofInt 64 1).toNat : Int) = _
  have e1 : (BitVec.ofInt 64 (n : Int)).toNat = n := by
    rw [BitVec.ofInt_natCast, BitVec.toNat_ofNat]
    exact Nat.mod_eq_of_lt (by omega)
  have e2 : (BitVec.ofInt 64 1).toNat = 1 := by decide
  rw [BitVec.toNat_and, e1, e2, nat_mask1, IntKind.wrap_i64]
  omega
theorem walk_nib {r : Nat} (h : r < 4294967296) : bits .xor .u32 ((r / 16 : Nat) : Int) (half (r % 16) : Int) = ((nib r : Nat) : Int) := u32_xor_nat _ _ (by omega) (half_lt _)
end Go.Proofs.YthkcnkhhaiapfaaDoor.Crc
