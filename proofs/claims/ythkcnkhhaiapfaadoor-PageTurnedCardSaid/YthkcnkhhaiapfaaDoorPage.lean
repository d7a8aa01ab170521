/- Words for the page's walks: a block of bytes of the call's own, its numbers of four bytes, the conversion of a string to bytes. -/
import Derived.Test.YthkcnkhhaiapfaaDoorProg
import Derived.Below
import Derived.Deep.Draws
import Derived.Deep.AppendLies
import Derived.Maps.AppendAt
import Derived.OwnWalk
import Derived.Laws.BytesArg
import Derived.Laws.MakeOwn
import Derived.Laws.OwnMore
import Derived.Deep.OwnRows
import Derived.Tactics
import Derived.Lib.ConvBytes
import Derived.Laws.Slices
import Derived.WalkKit
import Derived.KernelRfl
import Derived.RowKit3
import Derived.Deep.LoopGhost
import Derived.Deep.QuietTactic
import Derived.BigQuiet
import Derived.WideLaws
import Derived.Deep.DeepCutAuto
import Derived.Deep.CutBlock
import Derived.Deep.RegionHeld3
import Derived.Laws.Rows
import Derived.Lib.AppendStr
import Derived.ArgAppend
import Derived.Laws.IdiomCopy
import Derived.OrdersHeld
import Derived.Laws.BitsLemmas
import Derived.RowKit
import Derived.Test.YthkcnkhhaiapfaaDoorWWords
import Derived.Test.YthkcnkhhaiapfaaDoorWLast
import Derived.Test.YthkcnkhhaiapfaaDoorWTab
import Derived.Test.YthkcnkhhaiapfaaDoorWFour
import Derived.Test.YthkcnkhhaiapfaaDoorWQPut
import Derived.Test.YthkcnkhhaiapfaaDoorWApart
import Derived.Test.YthkcnkhhaiapfaaDoorWArr
import Derived.Test.YthkcnkhhaiapfaaDoorWZeros
import Derived.Test.YthkcnkhhaiapfaaDoorWFoot
import Derived.Test.YthkcnkhhaiapfaaDoorWKept
import Derived.Test.YthkcnkhhaiapfaaDoorWShare
import Derived.Test.YthkcnkhhaiapfaaDoorWN
import Derived.Test.YthkcnkhhaiapfaaDoorWFootNe
import Derived.Test.YthkcnkhhaiapfaaDoorWAt
import Derived.Test.YthkcnkhhaiapfaaDoorWEqStruct
import Derived.Test.YthkcnkhhaiapfaaDoorWRepsOne
import Derived.Test.YthkcnkhhaiapfaaDoorWInv
import Derived.Test.YthkcnkhhaiapfaaDoorWInvWords
import Derived.Test.YthkcnkhhaiapfaaDoorWGuard
import Derived.Test.YthkcnkhhaiapfaaDoorWNEv
import Derived.Test.YthkcnkhhaiapfaaDoorWMore
import Derived.Test.YthkcnkhhaiapfaaDoorPureKit
import Derived.Test.YthkcnkhhaiapfaaDoorWGlob
import Derived.Test.YthkcnkhhaiapfaaDoorWCopy
import Derived.Lib.BufferWrite
import Derived.Lib.ConvBytes
namespace Go.Proofs.YthkcnkhhaiapfaaDoor.Page
open Go Go.RowKit Go.Proofs.YthkcnkhhaiapfaaDoorW.PrintWords Go.Proofs.YthkcnkhhaiapfaaDoorW.PrintLast Go.Proofs.YthkcnkhhaiapfaaDoorW.PrintMore
def bd (m : List Nat) : List Value := m.map fun x : Nat => Value.int .u8 (x : Int)
theorem bd_length (m : List Nat) : (bd m).length = m.length := by simp [bd]
def BArr (w : World) (g : Nat) (m : List Nat) : Prop := w.heap[g]? = some (.cells (bd m).toArray 62 (0, 0))
section
variable {w w1 : World} {g : Nat} {m : List Nat}
theorem BArr.lt (h : BArr w g m) : g < w.heap.size := (Array.getElem?_eq_some_iff.1 h).1
theorem BArr.cell (h : BArr w g m) {i : Nat} (hi : i < m.length) : w.cell? ⟨g, i, none⟩ = some (.int .u8 ((m.getD i 0 : Nat) : Int)) := by
  rw [cell_of_row w g i _ 62 (0, 0) h]
  simp [bd, List.getD_eq_getElem?_getD, List.getElem?_eq_getElem hi]
theorem BArr.frozen (h : BArr w g m) (i : Nat) : w.frozen? ⟨g, i, none⟩ = false := by
  unfold BArr at h
  simp [World.frozen?, h]
theorem BArr.of_block (h : BArr w g m) (e : w1.heap[g]? = w.heap[g]?) : BArr w1 g m := e.trans h
theorem BArr.set_ (h : BArr w g m) (i x : Nat) : BArr (w.setCell ⟨g, i, none⟩ (.int .u8 (x : Int))) g (m.set i x) := by
  unfold BArr at h ⊢
  simp [World.setCell, Array.getElem?_modify, h, bd, List.map_set]
theorem BArr.drewN (h : BArr w g m) (n : Nat) : BArr (w.drewN n) g m := h
theorem BArr.row (h : BArr w g m) (m' : List Nat) : BArr (w.setRow g (bd m').toArray) g m' := setRow_heap w g _ _ 62 _ h
theorem BArr.reads (h : BArr w g m) (n : Nat) (hn : n ≤ m.length) (hm : m.length < 9223372036854775807) : ReadsInt w .u8 (some ⟨g, 0, none⟩) n (Crc.ints (m.take n)) := by
  refine ⟨by rw [Crc.ints_length, List.length_take]; omega, by omega, fun _ => ⟨_, rfl, fun j hj => ?_⟩⟩
  rw [add_plain]
  rw [h.cell (by omega)]
  unfold Crc.ints
  simp only [List.getD_eq_getElem?_getD, List.getElem?_map, List.getElem?_take_of_lt hj]
  rw [List.getElem?_eq_getElem (by omega)]
  rfl
end
theorem zero_cells : Tryd.zeroCells62 = (bd (List.replicate 512 0)).toArray := by kernel_rfl
theorem BArr.new (w : World) : BArr (w.alloc (.cells Tryd.zeroCells62 62)) w.heap.size (List.replicate 512 0) := by
  unfold BArr
  rw [heap_alloc_new, zero_cells]

theorem below_low {A B : Nat} {w0 w w1 : World} (h0 : Below B w0 w) (hBA : B ≤ A) (h : Below A w w1) : Below B w0 w1 := h0.trans ⟨h.os, h.tape, h.output, h.size, fun k hk => h.block k (by omega)⟩

/-- A number of four bytes, the lowest first. -/
def le4 (n : Nat) : List Nat := [n % 256, n / 256 % 256, n / 65536 % 256, n / 16777216 % 256]
def putl (m : List Nat) (o n : Nat) : List Nat := (((m.set o (n % 256)).set (o + 1) (n / 256 % 256)).set (o + 2) (n / 65536 % 256)).set (o + 3) (n / 16777216 % 256)
theorem putl_length (m : List Nat) (o n : Nat) : (putl m o n).length = m.length := by simp [putl]
set_option maxHeartbeats 1000000 in
set_option maxRecDepth 100000 in
theorem put_calls (w : World) (g o len cap : Nat) (m : List Nat) (hA : BArr w g m) (ho : o + 4 ≤ m.length) (hl : 4 ≤ len) (n : Nat) :
    Calls Tryd.prog 37 #[.slice (some ⟨g, o, none⟩) len cap, .int .u32 (n : Int)] w fun e w' => e = .returned (.tuple #[]) ∧ BArr w' g (putl m o n) ∧ Below g w w' := by
  have HA := Aside0.mk hA
  have c0 := hA.cell (i := o) (by omega)
  have c1 := hA.cell (i := o + 1) (by omega)
  have c2 := hA.cell (i := o + 2) (by omega)
  have c3 := hA.cell (i := o + 3) (by omega)
  have f0 := hA.frozen o
  have f1 := hA.frozen (o + 1)
  have f2 := hA.frozen (o + 2)
  have f3 := hA.frozen (o + 3)
  clear hA
  have g0 : IntKind.u8.wrap (n : Int) = ((n % 256 : Nat) : Int) := by rw [IntKind.wrap_u8]; omega
  have g1 : IntKind.u8.wrap ((n : Int) / 256) = ((n / 256 % 256 : Nat) : Int) := by rw [IntKind.wrap_u8]; omega
  have g2 : IntKind.u8.wrap ((n : Int) / 65536) = ((n / 65536 % 256 : Nat) : Int) := by rw [IntKind.wrap_u8]; omega
  have g3 : IntKind.u8.wrap ((n : Int) / 16777216) = ((n / 16777216 % 256 : Nat) : Int) := by rw [IntKind.wrap_u8]; omega
  go_enter Tryd.func37, Tryd.ntmps37
  go_wp2
  go_end0
  refine ⟨rfl, ?_, ?_⟩
  · exact (((HA.out.set_ o _).set_ (o + 1) _).set_ (o + 2) _).set_ (o + 3) _
  · refine Below.setCell ?_ (Nat.le_refl g) _
    refine Below.setCell ?_ (Nat.le_refl g) _
    refine Below.setCell ?_ (Nat.le_refl g) _
    exact Below.setCell (Below.refl g w) (Nat.le_refl g) _

/-! ### a string's bytes as plain numbers; a page -/
def nb (s : ByteArray) : List Nat := s.data.toList.map fun b => b.toNat
def str (l : List Nat) : ByteArray := strOfNums (Crc.ints l)
theorem nb_length (s : ByteArray) : (nb s).length = s.size := by rw [nb, List.length_map, data_length]
theorem nb_by (s : ByteArray) : Crc.By (nb s) := fun x hx => by
  obtain ⟨b, _, rfl⟩ := List.mem_map.1 hx
  exact UInt8.toNat_lt b
theorem bytesOf_nb (s : ByteArray) : bytesOf s = Crc.ints (nb s) := by
  unfold bytesOf Crc.ints nb
  rw [List.map_map]
  rfl
theorem byteCells_nb (s : ByteArray) : Lib.byteCells s.data.toList = bd (nb s) := by
  unfold Lib.byteCells bd nb
  rw [List.map_map]
  rfl
def pre (id kind : Nat) (body : List Nat) : List Nat := le4 id ++ ([kind, 0, body.length % 256, body.length / 256 % 256] ++ (body ++ List.replicate (500 - body.length) 0))
def sealed (id kind : Nat) (body : List Nat) : List Nat := pre id kind body ++ le4 (Crc.upd 0 (pre id kind body))
theorem pre_length (id kind : Nat) (body : List Nat) (h : body.length ≤ 500) : (pre id kind body).length = 508 := by
  simp [pre, le4]
  omega
theorem sealed_length (id kind : Nat) (body : List Nat) (h : body.length ≤ 500) : (sealed id kind body).length = 512 := by
  unfold sealed
  rw [List.length_append, pre_length _ _ _ h]
  rfl
/-- What lies behind the head's stores. -/
def m2 (id kind len : Nat) : List Nat := (((putl (List.replicate 512 0) 0 id).set 4 kind).set 6 (len % 256)).set 7 (len / 256 % 256)
theorem m2_eq (id kind len : Nat) : m2 id kind len = le4 id ++ ([kind, 0, len % 256, len / 256 % 256] ++ List.replicate 504 0) := by
  unfold m2 putl le4
  have : List.replicate 512 (0 : Nat) = 0 :: 0 :: 0 :: 0 :: 0 :: 0 :: 0 :: 0 :: List.replicate 504 0 := rfl
  rw [this]
  rfl
def m3 (id kind : Nat) (body : List Nat) : List Nat := (m2 id kind body.length).take 8 ++ (body ++ (m2 id kind body.length).drop (8 + body.length))
theorem m3_eq (id kind : Nat) (body : List Nat) (h : body.length ≤ 500) : m3 id kind body = pre id kind body ++ [0, 0, 0, 0] := by
  have e8 : ∀ (len : Nat), (m2 id kind len).take 8 = le4 id ++ [kind, 0, len % 256, len / 256 % 256] := fun len => by rw [m2_eq]; rfl
  have d8 : ∀ (len n : Nat), (m2 id kind len).drop (8 + n) = List.replicate (504 - n) 0 := fun len n => by
    rw [← List.drop_drop, m2_eq]
    show (List.replicate 504 0).drop n = _
    rw [List.drop_replicate]
  unfold m3 pre
  rw [e8, d8, show 504 - body.length = (500 - body.length) + 4 by omega, ← List.replicate_append_replicate]
  simp [List.append_assoc]
theorem m3_pre (id kind : Nat) (body : List Nat) (h : body.length ≤ 500) : (m3 id kind body).take 508 = pre id kind body := by
  rw [m3_eq _ _ _ h, List.take_append_of_le_length (by rw [pre_length _ _ _ h]; exact Nat.le_refl _), List.take_of_length_le (by rw [pre_length _ _ _ h]; exact Nat.le_refl _)]
theorem m4_eq (id kind : Nat) (body : List Nat) (h : body.length ≤ 500) (n : Nat) : putl (m3 id kind body) 508 n = pre id kind body ++ le4 n := by
  rw [m3_eq _ _ _ h]
  have hl := pre_length id kind body h
  unfold putl le4
  rw [List.set_append_right _ _ (by omega), List.set_append_right _ _ (by omega), List.set_append_right _ _ (by omega), List.set_append_right _ _ (by omega), hl]
  rfl
theorem m3_length (id kind : Nat) (body : List Nat) (h : body.length ≤ 500) : (m3 id kind body).length = 512 := by
  rw [m3_eq _ _ _ h, List.length_append, pre_length _ _ _ h]
  rfl
theorem m2_length (id kind len : Nat) : (m2 id kind len).length = 512 := by
  unfold m2
  rw [List.length_set, List.length_set, List.length_set, putl_length, List.length_replicate]
theorem pre_by {id kind : Nat} {body : List Nat} (hk : kind < 256) (hb : Crc.By body) : Crc.By (pre id kind body) := by
  intro x hx
  simp only [pre, le4, List.mem_append, List.mem_cons, List.mem_nil_iff, or_false] at hx
  rcases hx with (h | h | h | h) | (h | h | h | h) | h | h
  all_goals try omega
  · exact hb x h
  · rw [(List.mem_replicate.1 h).2]
    decide

section
variable {P : Program} {ops : Array Oper} {rest : List Oper} {o : Oper} {a : Act} {Q : Exit → Act → World → Prop}
/-- The builtin copy where what it does is known by an equation. -/
theorem wpList_copy_run (w : World) (hgd : o.guard = none) (d s : Operand) (t t' : TypeId) (ho : o.op = .call { callee := .builtin .copy, args := #[d, s], argTypes := #[t, t'] })
    (v u : Value) (hd : a.eval d = v) (hs : a.eval s = u) {v' : Value} {w' : World} (hr : (Builtin.copy_ #[t, t'] o.type #[v, u]).run P w = .ok v' w')
    (h : wpList P ops Q rest (a.put o.dst v') w') : wpList P ops Q (o :: rest) a w := by
  refine wpList_plain hgd fun K hK => ?_
  unfold Oper.wp
  simp only [execOp, ho, resolve, invoke, builtin, Sem.run_bind, Sem.run_pure, Result.andThen_ok, List.map_toArray, List.map_cons, List.map_nil, hd, hs, hr]
  exact hK _ _ h
end

/-! ### numbers out of a page -/
theorem bt_nb (s : ByteArray) (i : Nat) : bt s (i : Int) = (((nb s).getD i 0 : Nat) : Int) := by
  rw [← rd_bytesOf, bytesOf_nb, Crc.ints_rd]
theorem or_add (k a b : Nat) (h : a < 2 ^ k) : a ||| 2 ^ k * b = a + 2 ^ k * b := by
  rw [Nat.or_comm, ← Nat.two_pow_add_eq_or_of_lt h, Nat.add_comm]
def num4 (l : List Nat) : Nat := l.getD 0 0 + 256 * l.getD 1 0 + 65536 * l.getD 2 0 + 16777216 * l.getD 3 0
theorem or4 (a b c d : Nat) (ha : a < 256) (hb : b < 256) (hc : c < 256) (hd : d < 256) :
    Go.bits .or .u32 (Go.bits .or .u32 (Go.bits .or .u32 ((a : Int) % 4294967296) ((((b : Int) % 4294967296) * 256) % 4294967296)) ((((c : Int) % 4294967296) * 65536) % 4294967296)) ((((d : Int) % 4294967296) * 16777216) % 4294967296) = ((a + 256 * b + 65536 * c + 16777216 * d : Nat) : Int) := by
  have e1 : (a : Int) % 4294967296 = (a : Int) := by omega
  have e2 : (((b : Int) % 4294967296) * 256) % 4294967296 = ((2 ^ 8 * b : Nat) : Int) := by omega
  have e3 : (((c : Int) % 4294967296) * 65536) % 4294967296 = ((2 ^ 16 * c : Nat) : Int) := by omega
  have e4 : (((d : Int) % 4294967296) * 16777216) % 4294967296 = ((2 ^ 24 * d : Nat) : Int) := by omega
  rw [e1, e2, e3, e4, u32_or_nat _ _ (by omega) (by omega), or_add 8 a b (by omega), u32_or_nat _ _ (by omega) (by omega), or_add 16 _ c (by omega), u32_or_nat _ _ (by omega) (by omega), or_add 24 _ d (by omega)]
theorem i64_or {a b : Nat} (ha : a < 256) (hb : b < 256) : Go.bits .or .i64 (a : Int) ((b : Int) * 256) = ((a + 256 * b : Nat) : Int) := by
  have e0 : (b : Int) * 256 = ((2 ^ 8 * b : Nat) : Int) := by omega
  have e : ∀ n : Nat, n < 65536 → (BitVec.ofInt 64 (n : Int)).toNat = n := fun n hn => by
    rw [BitVec.ofInt_natCast, BitVec.toNat_ofNat]
    exact Nat.mod_eq_of_lt (by omega)
  rw [e0]
  show IntKind.i64.wrap ((BitVec.ofInt 64 (a : Int) ||| BitVec.ofInt 64 ((2 ^ 8 * b : Nat) : Int)).toNat : Int) = _
  rw [BitVec.toNat_or, e a (by omega), e _ (by omega), or_add 8 a b (by omega), IntKind.wrap_i64]
  omega
theorem num4_lt {l : List Nat} (h : Crc.By l) : num4 l < 4294967296 := by
  unfold num4
  have := h.get 0
  have := h.get 1
  have := h.get 2
  have := h.get 3
  omega
theorem nb_extract (s : ByteArray) (a b : Nat) : nb (s.extract a b) = ((nb s).drop a).take (b - a) := by
  unfold nb
  rw [Lib.extract_data, List.map_take, List.map_drop]
/-! ### the conversion -/
theorem conv_below (w : World) (s : ByteArray) : Below w.heap.size w (Lib.bytesWorld w 5 s) :=
  ⟨rfl, rfl, rfl, by rw [Lib.bytesWorld_size]; omega, fun k hk => Lib.bytesWorld_at_old w 5 s k hk⟩
theorem conv_reads (w : World) (s : ByteArray) (hs : s.size < 9223372036854775807) : ReadsInt (Lib.bytesWorld w 5 s) .u8 (some ⟨w.heap.size, 0, none⟩) s.size (Crc.ints (nb s)) := by
  refine ⟨by rw [Crc.ints_length, nb_length], by omega, fun _ => ⟨_, rfl, fun j hj => ?_⟩⟩
  rw [add_plain, Lib.bytesWorld_cell w 5 s j hj]
  unfold Crc.ints nb
  simp only [List.getD_eq_getElem?_getD, List.getElem?_map]
  cases hx : s.data.toList[j]? <;> rfl
/-! ### texts out of numbers -/
theorem str_data (l : List Nat) : (str l).data.toList = l.map fun n => UInt8.ofNat n := by
  unfold str Crc.ints
  rw [strOfNums_data, List.map_map]
  apply List.map_congr_left
  intro x _
  rfl
theorem str_append (a b : List Nat) : str (a ++ b) = str a ++ str b := by
  apply Copy.ba_ext
  rw [str_data, List.map_append, ByteArray.data_append, Array.toList_append, str_data, str_data]
theorem str_size (l : List Nat) : (str l).size = l.length := by
  rw [← data_length, str_data, List.length_map]
theorem nb_str {l : List Nat} (h : Crc.By l) : nb (str l) = l := by
  unfold nb
  rw [str_data, List.map_map]
  conv => rhs; rw [← List.map_id l]
  apply List.map_congr_left
  intro x hx
  have := h x hx
  simp only [Function.comp_apply, id_eq, UInt8.toNat_ofNat']
  omega
theorem str_nb (s : ByteArray) : str (nb s) = s := by
  apply Copy.ba_ext
  rw [str_data, nb, List.map_map]
  conv => rhs; rw [← List.map_id s.data.toList]
  apply List.map_congr_left
  intro x _
  simp
theorem nb_inj {s t : ByteArray} (h : nb s = nb t) : s = t := by rw [← str_nb s, h, str_nb]
theorem str_nil : str [] = ⟨#[]⟩ := rfl
/-! ### a page that is opened -/
def olen (l : List Nat) : Nat := l.getD 6 0 + 256 * l.getD 7 0
def obad (a0 : Int) (l : List Nat) : Prop :=
  a0 < 0 ∨ 2147483648 ≤ a0 ∨ (num4 l : Int) ≠ a0 ∨ l.getD 4 0 = 0 ∨ l.getD 5 0 ≠ 0 ∨ 500 < olen l ∨ ¬ ∀ x ∈ (l.take 508).drop (8 + olen l), x = 0
instance obad_dec (a0 : Int) (l : List Nat) : Decidable (obad a0 l) := by unfold obad; exact inferInstance
/-- What a page's opening answers. -/
def opened (a0 : Int) (a1 : ByteArray) : Option (Int × ByteArray × Int) :=
  if a1.size ≠ 512 then some (0, ⟨#[]⟩, 5)
  else if Crc.upd 0 ((nb a1).take 508) ≠ num4 ((nb a1).drop 508) then some (0, ⟨#[]⟩, 6)
  else if obad a0 (nb a1) then some (0, ⟨#[]⟩, 5)
  else some (((nb a1).getD 4 0 : Nat), a1.extract 8 (8 + olen (nb a1)), 0)
theorem le4_num4 {l : List Nat} (h : Crc.By l) (hl : l.length = 4) : le4 (num4 l) = l := by
  match l, hl with
  | [a, b, c, d], _ =>
    have ha := h a (by simp)
    have hb := h b (by simp)
    have hc := h c (by simp)
    have hd := h d (by simp)
    show le4 (a + 256 * b + 65536 * c + 16777216 * d) = _
    unfold le4
    simp only [List.cons.injEq, and_true]
    omega
theorem num4_le4 {n : Nat} (h : n < 4294967296) : num4 (le4 n) = n := by
  show n % 256 + 256 * (n / 256 % 256) + 65536 * (n / 65536 % 256) + 16777216 * (n / 16777216 % 256) = n
  omega
theorem le4_by (n : Nat) : Crc.By (le4 n) := by
  intro x hx
  simp only [le4, List.mem_cons, List.mem_nil_iff, or_false] at hx
  omega
theorem le4_inj {n : Nat} {l : List Nat} (hn : n < 4294967296) (h : Crc.By l) (hl : l.length = 4) : le4 n = l ↔ n = num4 l :=
  ⟨fun e => by rw [← e, num4_le4 hn], fun e => by rw [e, le4_num4 h hl]⟩
theorem zeros_iff {n : Nat} {l : List Nat} (hl : l.length = n) : List.replicate n 0 = l ↔ ∀ x ∈ l, x = 0 := by
  constructor
  · rintro rfl x hx
    exact (List.mem_replicate.1 hx).2
  · intro h
    exact (List.eq_replicate_iff.2 ⟨hl, h⟩).symm
theorem eight {l : List Nat} (h : 8 ≤ l.length) : ∃ b0 b1 b2 b3 b4 b5 b6 b7 r, l = b0 :: b1 :: b2 :: b3 :: b4 :: b5 :: b6 :: b7 :: r := by
  match l, h with
  | b0 :: b1 :: b2 :: b3 :: b4 :: b5 :: b6 :: b7 :: r, _ => exact ⟨b0, b1, b2, b3, b4, b5, b6, b7, r, rfl⟩
theorem pre_iff {id : Nat} {l : List Nat} (hid : id < 4294967296) (h : Crc.By l) (hl : l.length = 512) (hn : olen l ≤ 500) :
    pre id (l.getD 4 0) ((l.drop 8).take (olen l)) = l.take 508 ↔ num4 l = id ∧ l.getD 5 0 = 0 ∧ ∀ x ∈ (l.take 508).drop (8 + olen l), x = 0 := by
  obtain ⟨b0, b1, b2, b3, b4, b5, b6, b7, r, rfl⟩ := eight (l := l) (by omega)
  have hr : r.length = 504 := by simpa using hl
  have hn' : olen (b0 :: b1 :: b2 :: b3 :: b4 :: b5 :: b6 :: b7 :: r) = b6 + 256 * b7 := rfl
  rw [hn'] at hn ⊢
  have h6 : b6 < 256 := h b6 (by simp)
  have h7 : b7 < 256 := h b7 (by simp)
  have hb4 : Crc.By [b0, b1, b2, b3] := fun x hx => h x (by
    simp only [List.mem_cons, List.mem_nil_iff, or_false] at hx ⊢
    rcases hx with h | h | h | h <;> simp [h])
  have e1 : (b0 :: b1 :: b2 :: b3 :: b4 :: b5 :: b6 :: b7 :: r).take 508 = [b0, b1, b2, b3] ++ ([b4, b5, b6, b7] ++ r.take 500) := rfl
  have e2 : ((b0 :: b1 :: b2 :: b3 :: b4 :: b5 :: b6 :: b7 :: r).take 508).drop (8 + (b6 + 256 * b7)) = (r.take 500).drop (b6 + 256 * b7) := by
    rw [← List.drop_drop]
    rfl
  have e3 : (b0 :: b1 :: b2 :: b3 :: b4 :: b5 :: b6 :: b7 :: r).drop 8 = r := rfl
  have e4 : num4 (b0 :: b1 :: b2 :: b3 :: b4 :: b5 :: b6 :: b7 :: r) = num4 [b0, b1, b2, b3] := rfl
  have hlen : (r.take (b6 + 256 * b7)).length = b6 + 256 * b7 := by rw [List.length_take]; omega
  rw [e2, e3, e4, e1]
  unfold pre
  rw [hlen, show (b6 + 256 * b7) % 256 = b6 by omega, show (b6 + 256 * b7) / 256 % 256 = b7 by omega]
  have k1 : le4 id ++ ([(b0 :: b1 :: b2 :: b3 :: b4 :: b5 :: b6 :: b7 :: r).getD 4 0, 0, b6, b7] ++ (r.take (b6 + 256 * b7) ++ List.replicate (500 - (b6 + 256 * b7)) 0)) = [b0, b1, b2, b3] ++ ([b4, b5, b6, b7] ++ r.take 500) ↔
      le4 id = [b0, b1, b2, b3] ∧ 0 = b5 ∧ r.take (b6 + 256 * b7) ++ List.replicate (500 - (b6 + 256 * b7)) 0 = r.take 500 := by
    constructor
    · intro e
      obtain ⟨u, v⟩ := List.append_inj e rfl
      obtain ⟨u2, v2⟩ := List.append_inj v rfl
      simp only [List.cons.injEq] at u2
      exact ⟨u, u2.2.1, v2⟩
    · rintro ⟨u, rfl, v⟩
      rw [u, v]
      rfl
  rw [k1, le4_inj hid hb4 rfl]
  have k2 : r.take (b6 + 256 * b7) ++ List.replicate (500 - (b6 + 256 * b7)) 0 = r.take 500 ↔ ∀ x ∈ (r.take 500).drop (b6 + 256 * b7), x = 0 := by
    rw [← zeros_iff (n := 500 - (b6 + 256 * b7)) (by rw [List.length_drop, List.length_take]; omega)]
    have e5 : r.take 500 = r.take (b6 + 256 * b7) ++ (r.take 500).drop (b6 + 256 * b7) := by
      conv => lhs; rw [← List.take_append_drop (b6 + 256 * b7) (r.take 500)]
      rw [List.take_take, Nat.min_eq_left hn]
    conv => lhs; rhs; rw [e5]
    exact List.append_cancel_left_eq .. |>.to_iff
  rw [k2]
  constructor
  · rintro ⟨a, b, c⟩
    exact ⟨a.symm, b.symm, c⟩
  · rintro ⟨a, b, c⟩
    exact ⟨a.symm, b.symm, c⟩
theorem sealed_iff {id : Nat} {l : List Nat} (hid : id < 4294967296) (h : Crc.By l) (hl : l.length = 512) (hn : olen l ≤ 500) (hs : Crc.upd 0 (l.take 508) = num4 (l.drop 508)) :
    sealed id (l.getD 4 0) ((l.drop 8).take (olen l)) = l ↔ num4 l = id ∧ l.getD 5 0 = 0 ∧ ∀ x ∈ (l.take 508).drop (8 + olen l), x = 0 := by
  rw [← pre_iff hid h hl hn]
  have hpl : (pre id (l.getD 4 0) ((l.drop 8).take (olen l))).length = 508 := pre_length _ _ _ (by rw [List.length_take]; omega)
  unfold sealed
  constructor
  · intro e
    have := congrArg (List.take 508) e
    rw [List.take_append_of_le_length (by omega), List.take_of_length_le (by omega)] at this
    exact this
  · intro e
    rw [e, hs, le4_num4 (h.drop 508) (by rw [List.length_drop, hl]), List.take_append_drop]
theorem toList_inj {s t : ByteArray} : s.toList = t.toList ↔ s = t := by
  constructor
  · intro h
    rw [ByteArray.toList_eq, ByteArray.toList_eq] at h
    exact Copy.ba_ext h
  · rintro rfl
    rfl
theorem sealed_by {id kind : Nat} {body : List Nat} (hk : kind < 256) (hb : Crc.By body) : Crc.By (sealed id kind body) := by
  intro x hx
  rcases List.mem_append.1 hx with h | h
  · exact pre_by hk hb x h
  · exact le4_by _ x h
end Go.Proofs.YthkcnkhhaiapfaaDoor.Page
