/- Words of this session's own: that the program's table lies where its initialiser lays it, and stays there. -/
import Derived.Test.YthkcnkhhaiapfaaDoorWWords
import Derived.Test.YthkcnkhhaiapfaaDoorCrc
import Derived.Deep.OwnRows
import Derived.Laws.Rows
import Derived.Laws.Tables
namespace Go.Proofs.YthkcnkhhaiapfaaDoor
open Go.RowKit Go.Proofs.YthkcnkhhaiapfaaDoorW.PrintWords
/-- Block 0 holds the table of sixteen words. -/
def Glob (w : World) : Prop := ∀ i : Nat, i < 16 → w.cell? ⟨0, i, none⟩ = some (.int .u32 (Crc.half i : Int))
theorem Glob.below {w w1 : World} (h : Glob w) (hb : Below w.heap.size w w1) : Glob w1 := fun i hi => pw_cell_below hb (h i hi)
theorem Glob.drewN {w : World} (h : Glob w) (n : Nat) : Glob (w.drewN n) := h

/-! ### an array of words in a block of the call's own -/
def wd (m : List Nat) : List Value := m.map fun x : Nat => Value.int .u32 (x : Int)
def Arr (w : World) (g : Nat) (t : TypeId) (m : List Nat) : Prop := w.heap[g]? = some (.cells (wd m).toArray t (0, 0))
theorem wd_length (m : List Nat) : (wd m).length = m.length := by simp [wd]
theorem wd_one (m : List Nat) : (wd m).toArray.all (·.oneCell') = true := by simp [wd]; intro x _; rfl
section
variable {w w1 : World} {g : Nat} {t : TypeId} {m : List Nat}
theorem Arr.lt (h : Arr w g t m) : g < w.heap.size := (Array.getElem?_eq_some_iff.1 h).1
theorem Arr.cell (h : Arr w g t m) {i : Nat} (hi : i < m.length) : w.cell? ⟨g, i, none⟩ = some (.int .u32 ((m.getD i 0 : Nat) : Int)) := by
  rw [cell_of_row w g i _ t (0, 0) h]
  simp [wd, List.getD_eq_getElem?_getD, List.getElem?_eq_getElem hi]
theorem Arr.frozen (h : Arr w g t m) (i : Nat) : w.frozen? ⟨g, i, none⟩ = false := by
  unfold Arr at h
  simp [World.frozen?, h]
theorem Arr.of_block (h : Arr w g t m) (e : w1.heap[g]? = w.heap[g]?) : Arr w1 g t m := e.trans h
theorem Arr.below {B : Nat} (h : Arr w g t m) (hb : Below B w w1) (hg : g < B) : Arr w1 g t m := h.of_block (hb.block g hg)
theorem Arr.set_ (h : Arr w g t m) (i x : Nat) : Arr (w.setCell ⟨g, i, none⟩ (.int .u32 (x : Int))) g t (m.set i x) := by
  unfold Arr at h ⊢
  simp [World.setCell, Array.getElem?_modify, h, wd, List.map_set]
theorem Arr.far (h : Arr w g t m) {p : Addr} (hp : g ≠ p.block) (u : Value) : Arr (w.setCell p u) g t m := h.of_block (Below.heap_setCell w p u g hp)
theorem Arr.alloc (h : Arr w g t m) (o : Obj) : Arr (w.alloc o) g t m := h.of_block (Below.heap_alloc w o g h.lt)
theorem Arr.drewN (h : Arr w g t m) (n : Nat) : Arr (w.drewN n) g t m := h
theorem Arr.row (h : Arr w g t m) (m' : List Nat) : Arr (w.setRow g (wd m').toArray) g t m' := setRow_heap w g _ _ t _ h
theorem Arr.rowFar (h : Arr w g t m) {g' : Nat} (hg : g ≠ g') (cs : Array Value) : Arr (w.setRow g' cs) g t m := h.of_block (setRow_other w g' g cs hg)
theorem Arr.new (w : World) (t : TypeId) (m : List Nat) : Arr (w.alloc (.cells (wd m).toArray t)) w.heap.size t m := heap_alloc_new w _
end
theorem below_setRow_ {B g : Nat} {w0 w : World} (hb : Below B w0 w) (hBg : B ≤ g) (cs : Array Value) : Below B w0 (w.setRow g cs) :=
  hb.trans ⟨rfl, rfl, rfl, by simp [World.setRow], fun k hk => setRow_other w g k cs (by omega)⟩
end Go.Proofs.YthkcnkhhaiapfaaDoor
