/- From the walks' integers to plain numbers: what the pure parts of the six laws of the sum share. -/
import Derived.Test.YthkcnkhhaiapfaaDoorCrcLaws
import Derived.Test.YthkcnkhhaiapfaaDoorWWords
import Derived.Test.YthkcnkhhaiapfaaDoorWTab
import Derived.RowKit
namespace Go.Proofs.YthkcnkhhaiapfaaDoor.Crc
open Go Go.RowKit Go.Proofs.YthkcnkhhaiapfaaDoorW.PrintWords
def ints (l : List Nat) : List Int := l.map fun n : Nat => (n : Int)
theorem ints_length (l : List Nat) : (ints l).length = l.length := by simp [ints]
theorem ints_toNat (l : List Nat) : (ints l).map Int.toNat = l := by simp [ints, Function.comp_def]
theorem ints_append (a b : List Nat) : ints (a ++ b) = ints a ++ ints b := by simp [ints]
theorem ints_take (l : List Nat) (n : Nat) : (ints l).take n = ints (l.take n) := by simp [ints, List.map_take]
theorem ints_drop (l : List Nat) (n : Nat) : (ints l).drop n = ints (l.drop n) := by simp [ints, List.map_drop]
theorem ints_set (l : List Nat) (i x : Nat) : (ints l).set i (x : Int) = ints (l.set i x) := by simp [ints, List.map_set]
theorem ints_zeros (n : Nat) : List.replicate n (0 : Int) = ints (List.replicate n 0) := by simp [ints]
theorem ints_rd (l : List Nat) (i : Nat) : rd (ints l) (i : Int) = ((l.getD i 0 : Nat) : Int) := by
  unfold rd ints
  rw [Int.toNat_natCast, List.getD_eq_getElem?_getD, List.getD_eq_getElem?_getD, List.getElem?_map]
  cases l[i]? <;> rfl
/-- Bytes. -/
def By (l : List Nat) : Prop := ∀ x ∈ l, x < 256
theorem By.take {l : List Nat} (h : By l) (n : Nat) : By (l.take n) := fun x hx => h x (List.mem_of_mem_take hx)
theorem By.drop {l : List Nat} (h : By l) (n : Nat) : By (l.drop n) := fun x hx => h x (List.mem_of_mem_drop hx)
theorem By.get {l : List Nat} (h : By l) (i : Nat) : l.getD i 0 < 256 := by
  rw [List.getD_eq_getElem?_getD]
  cases hx : l[i]? with
  | none => simp
  | some y => exact h y (List.mem_of_getElem? hx)
theorem By.zeros (n : Nat) : By (List.replicate n 0) := fun x hx => by
  rw [(List.mem_replicate.1 hx).2]
  decide
theorem bytes_of (l : List Int) (h : ∀ x ∈ l, (Lit.int .u8 x).wf = true) : ∃ ns : List Nat, l = ints ns ∧ By ns := by
  have hb : ∀ x ∈ l, 0 ≤ x ∧ x < 256 := fun x hx => by
    have := h x hx
    simp [Lit.wf, IntKind.min, IntKind.max, IntKind.signed, IntKind.bits] at this
    omega
  refine ⟨l.map Int.toNat, ?_, ?_⟩
  · unfold ints
    rw [List.map_map]
    symm
    rw [List.map_eq_iff]
    intro i
    cases hx : l[i]? with
    | none => rfl
    | some y =>
      have := hb y (List.mem_of_getElem? hx)
      simp
      omega
  · intro x hx
    obtain ⟨y, hy, rfl⟩ := List.mem_map.1 hx
    have := hb y hy
    omega
theorem word_of {a : Int} (h : (Lit.int .u32 a).wf = true) : ∃ n : Nat, a = (n : Int) ∧ n < 4294967296 := by
  simp [Lit.wf, IntKind.min, IntKind.max, IntKind.signed, IntKind.bits] at h
  exact ⟨a.toNat, by omega, by omega⟩
theorem whole_of {a : Int} (h : (Lit.int .i64 a).wf = true) : -9223372036854775808 ≤ a ∧ a ≤ 9223372036854775807 := by
  simp [Lit.wf, IntKind.min, IntKind.max, IntKind.signed, IntKind.bits] at h
  omega
theorem upd_if {s : Nat} {l : List Nat} (hs : s < 4294967296) (hl : By l) :
    (if 0 ≤ (s : Int) ∧ (s : Int) < 4294967296 ∧ (∀ x ∈ ints l, 0 ≤ x ∧ x < 256) then some ((upd (s : Int).toNat ((ints l).map Int.toNat) : Nat) : Int) else none) = some ((upd s l : Nat) : Int) := by
  rw [if_pos, ints_toNat, Int.toNat_natCast]
  refine ⟨by omega, by omega, fun x hx => ?_⟩
  obtain ⟨y, hy, rfl⟩ := List.mem_map.1 hx
  have := hl y hy
  omega
theorem shift_if {r n : Nat} (hr : r < 4294967296) (hn : n ≤ 1048576) :
    (if 0 ≤ (r : Int) ∧ (r : Int) < 4294967296 ∧ 0 ≤ (n : Int) ∧ (n : Int) ≤ 1048576 then some ((shift (r : Int).toNat (n : Int).toNat : Nat) : Int) else none) = some ((it z n r : Nat) : Int) := by
  rw [if_pos (by omega), Int.toNat_natCast, Int.toNat_natCast, shift_it hr hn]
theorem z_lt {r : Nat} (h : r < 4294967296) : z r < 4294967296 := step_lt (step_lt (step_lt (step_lt (step_lt (step_lt (step_lt (step_lt h)))))))
theorem it_lt : ∀ (n : Nat) {r : Nat} (_ : r < 4294967296), it z n r < 4294967296
  | 0, _, h => h
  | n + 1, _, h => it_lt n (z_lt h)
theorem upd_lt' {s : Nat} (hs : s < 4294967296) {l : List Nat} (hl : By l) : upd s l < 4294967296 := upd_lt hs l hl
theorem xor32 {a b : Nat} (ha : a < 4294967296) (hb : b < 4294967296) : Go.bits .xor .u32 (a : Int) (b : Int) = ((a ^^^ b : Nat) : Int) := u32_xor_nat a b ha hb
theorem wrap_succ {i : Nat} (h : i < 9223372036854775807) : wrap64 ((i : Int) + 1) = ((i + 1 : Nat) : Int) := by unfold wrap64; omega
end Go.Proofs.YthkcnkhhaiapfaaDoor.Crc
