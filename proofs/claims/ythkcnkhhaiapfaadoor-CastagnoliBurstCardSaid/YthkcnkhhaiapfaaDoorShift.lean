/- The walks of castagnoli's arrays: one, times, twice, shift. -/
import Derived.Test.YthkcnkhhaiapfaaDoorProg
import Derived.Below
import Derived.Deep.Draws
import Derived.Deep.AppendLies
import Derived.Maps.AppendAt
import Derived.OwnWalk
import Derived.Laws.BytesArg
import Derived.Laws.MakeOwn
import Derived.Laws.OwnMore
import Derived.Deep.OwnRows
import Derived.Tactics
import Derived.Lib.ConvBytes
import Derived.Laws.Slices
import Derived.WalkKit
import Derived.KernelRfl
import Derived.RowKit3
import Derived.Deep.LoopGhost
import Derived.Deep.QuietTactic
import Derived.BigQuiet
import Derived.WideLaws
import Derived.Deep.DeepCutAuto
import Derived.Deep.CutBlock
import Derived.Deep.RegionHeld3
import Derived.Laws.Rows
import Derived.Lib.AppendStr
import Derived.ArgAppend
import Derived.Laws.IdiomCopy
import Derived.OrdersHeld
import Derived.Laws.BitsLemmas
import Derived.RowKit
import Derived.Test.YthkcnkhhaiapfaaDoorWWords
import Derived.Test.YthkcnkhhaiapfaaDoorWLast
import Derived.Test.YthkcnkhhaiapfaaDoorWTab
import Derived.Test.YthkcnkhhaiapfaaDoorWFour
import Derived.Test.YthkcnkhhaiapfaaDoorWQPut
import Derived.Test.YthkcnkhhaiapfaaDoorWApart
import Derived.Test.YthkcnkhhaiapfaaDoorWArr
import Derived.Test.YthkcnkhhaiapfaaDoorWZeros
import Derived.Test.YthkcnkhhaiapfaaDoorWFoot
import Derived.Test.YthkcnkhhaiapfaaDoorWKept
import Derived.Test.YthkcnkhhaiapfaaDoorWShare
import Derived.Test.YthkcnkhhaiapfaaDoorWN
import Derived.Test.YthkcnkhhaiapfaaDoorWFootNe
import Derived.Test.YthkcnkhhaiapfaaDoorWAt
import Derived.Test.YthkcnkhhaiapfaaDoorWEqStruct
import Derived.Test.YthkcnkhhaiapfaaDoorWRepsOne
import Derived.Test.YthkcnkhhaiapfaaDoorWInv
import Derived.Test.YthkcnkhhaiapfaaDoorWInvWords
import Derived.Test.YthkcnkhhaiapfaaDoorWGuard
import Derived.Test.YthkcnkhhaiapfaaDoorWNEv
import Derived.Test.YthkcnkhhaiapfaaDoorWMore
import Derived.Test.YthkcnkhhaiapfaaDoorWGlob
namespace Go.Proofs.YthkcnkhhaiapfaaDoor
open Go.RowKit Go.Proofs.YthkcnkhhaiapfaaDoorW.PrintWords Go.Proofs.YthkcnkhhaiapfaaDoorW.PrintLast Go.Proofs.YthkcnkhhaiapfaaDoorW.PrintMore
set_option maxHeartbeats 1000000 in
set_option maxRecDepth 100000 in
theorem times_calls (w : World) (g r : Nat) (m : List Nat) (hm : Crc.Ok m) (hA : Arr w g 76 m) (hr : r < 4294967296) :
    Calls Tryd.prog 52 #[.pointer (some ⟨g, 0, none⟩), .int .u32 (r : Int)] w fun e w' => e = .returned (.int .u32 (Crc.tms m r 32 : Int)) ∧ w = w' := by
  have HA := Aside0.mk hA
  have HM := Aside0.mk hm
  have HR := Aside0.mk hr
  clear hA hm hr
  go_enter Tryd.func52, Tryd.ntmps52
  go_wp2
  go_loop [1, 5, 6] (fun v1 v5 v6 => ∃ i q o : Nat, v1 = .int .u32 q ∧ v5 = .int .u32 o ∧ v6 = .int .i64 i ∧ i ≤ 32 ∧ Aside0 (r / 2 ^ i = q) ∧ Aside0 (Crc.tms m r i = o)) (fun _ _ v6 => 33 - (intOf v6).toNat)
  case atStart => exact ⟨0, r, 0, rfl, rfl, rfl, by omega, ⟨by simp⟩, ⟨rfl⟩⟩
  case round =>
    obtain ⟨i, q, o, rfl, rfl, rfl, hi, hq, ho⟩ := hrel
    by_cases h0 : q = 0
    · have t1 : ((q : Int) != 0) = false := by simp [h0]
      have t2 : (!((q : Int) == 0)) = false := by simp [h0]
      have t3 : ((q : Int) == 0) = true := by simp [h0]
      have H0 := Aside0.mk h0
      clear h0
      go_wp2
      go_ret
      refine ⟨?_, rfl⟩
      have he := Crc.tms_end m r i (by rw [hq.out, H0.out]) (32 - i)
      rw [show i + (32 - i) = 32 by omega, ho.out] at he
      rw [he]
      rfl
    · have t1 : ((q : Int) != 0) = true := by simp; omega
      have t2 : (!((q : Int) == 0)) = true := by simp; omega
      have t3 : ((q : Int) == 0) = false := by simp; omega
      have hi32 : i < 32 := by
        rcases Nat.lt_or_ge i 32 with h | h
        · exact h
        · exfalso
          have hr := HR.out
          obtain rfl : i = 32 := by omega
          have := hq.out
          rw [Nat.div_eq_of_lt (by simpa using hr)] at this
          omega
      have hql : q < 4294967296 := by
        have := HR.out
        have h2 := Nat.div_le_self r (2 ^ i)
        rw [hq.out] at h2
        omega
      have f1 := Crc.walk_bit hql
      have f2 : (q : Int) / 2 = ((q / 2 : Nat) : Int) := by omega
      obtain ⟨b, hb⟩ : ∃ b, q % 2 = b := ⟨_, rfl⟩
      obtain ⟨q2, hq2⟩ : ∃ b, q / 2 = b := ⟨_, rfl⟩
      rw [hb] at f1
      rw [hq2] at f2
      have hqn : r / 2 ^ (i + 1) = q2 := by rw [Nat.pow_succ, ← Nat.div_div_eq_div_mul, hq.out, hq2]
      have HQ2 := Aside0.mk hqn
      have HBq := Aside0.mk hb
      have hbl : b = 1 ∨ b = 0 := by omega
      clear h0 hb hq2 hqn hql
      rcases hbl with h1 | h1
      · have u1 : ((b : Int) == 1) = true := by simp [h1]
        have hc := HA.out.cell (i := i) (by rw [HM.out.len]; exact hi32)
        have f3 := u32_xor_nat o (m.getD i 0) (by rw [← ho.out]; exact Crc.tms_lt HM.out _ _) (HM.out.lt i)
        obtain ⟨x, hx⟩ : ∃ x, m.getD i 0 = x := ⟨_, rfl⟩
        obtain ⟨o2, ho2⟩ : ∃ y, o ^^^ x = y := ⟨_, rfl⟩
        rw [hx] at hc
        rw [hx, ho2] at f3
        have HO2 : Aside0 (Crc.tms m r (i + 1) = o2) := ⟨by rw [Crc.tms, ho.out, hq.out, if_pos (by rw [HBq.out, h1]), hx, ho2]⟩
        clear h1 hx ho2
        go_wp2
        go_round
        case rel => exact ⟨i + 1, q2, o2, rfl, rfl, by go_num, by omega, HQ2, HO2⟩
        case measure => simp [intOf]; omega
      · have u1 : ((b : Int) == 1) = false := by simp [h1]
        have HO2 : Aside0 (Crc.tms m r (i + 1) = o) := ⟨by rw [Crc.tms, ho.out, hq.out, if_neg (by rw [HBq.out, h1]; decide), Nat.xor_zero]⟩
        clear h1
        go_wp2
        go_round
        case rel => exact ⟨i + 1, q2, o, rfl, rfl, by go_num, by omega, HQ2, HO2⟩
        case measure => simp [intOf]; omega

theorem info76 : (Tryd.prog.info? 76).map (fun i => i.size) = some 32 := by kernel_rfl
theorem info76_of {m : List Nat} (h : m.length = 32) : (Tryd.prog.info? 76).map (fun i => i.size) = some (wd m).toArray.size := by
  rw [info76]; simp [wd_length, h]
def part (m : List Nat) (j : Nat) : List Nat := m.take j ++ List.replicate (32 - j) 0
theorem part_length {m : List Nat} (h : m.length = 32) {j : Nat} (hj : j ≤ 32) : (part m j).length = 32 := by
  unfold part; simp; omega
theorem part_set {m : List Nat} (h : m.length = 32) {j : Nat} (hj : j < 32) : (part m j).set j (m.getD j 0) = part m (j + 1) := by
  unfold part
  have hl : (m.take j).length = j := by rw [List.length_take]; omega
  rw [List.set_append_right _ _ (by omega), hl, Nat.sub_self, show 32 - j = (32 - (j + 1)) + 1 by omega, List.replicate_succ, List.set_cons_zero, List.take_succ_eq_append_getElem (by omega), List.append_assoc, List.getD_eq_getElem?_getD, List.getElem?_eq_getElem (by omega)]
  rfl
theorem part_zero (m : List Nat) : part m 0 = List.replicate 32 0 := by simp [part]
theorem part_end {m : List Nat} (h : m.length = 32) : part m 32 = m := by
  unfold part
  rw [List.take_of_length_le (by omega)]
  simp
theorem zeros_wd : (wd (List.replicate 32 0)).toArray = #[.int .u32 0, .int .u32 0, .int .u32 0, .int .u32 0, .int .u32 0, .int .u32 0, .int .u32 0, .int .u32 0, .int .u32 0, .int .u32 0, .int .u32 0, .int .u32 0, .int .u32 0, .int .u32 0, .int .u32 0, .int .u32 0, .int .u32 0, .int .u32 0, .int .u32 0, .int .u32 0, .int .u32 0, .int .u32 0, .int .u32 0, .int .u32 0, .int .u32 0, .int .u32 0, .int .u32 0, .int .u32 0, .int .u32 0, .int .u32 0, .int .u32 0, .int .u32 0] := rfl

set_option maxHeartbeats 1000000 in
set_option maxRecDepth 100000 in
theorem twice_calls (w : World) (g : Nat) (m : List Nat) (hm : Crc.Ok m) (hA : Arr w g 76 m) :
    Calls Tryd.prog 51 #[.pointer (some ⟨g, 0, none⟩)] w fun e w' => e = .returned (.agg (wd (Crc.twc m)).toArray) ∧ Below w.heap.size w w' := by
  have hT := Crc.twc_ok hm
  have HA := Aside0.mk hA
  have HM := Aside0.mk hm
  have HT := Aside0.mk hT
  clear hA hm hT
  have B1 : Aside0 (Below w.heap.size w ((w.alloc (.cells (wd (List.replicate 32 0)).toArray 76)).alloc (.cells (wd (List.replicate 32 0)).toArray 76))) := ⟨((Below.refl _ _).alloc (Nat.le_refl _) _).alloc (by simp) _⟩
  have A0 : Aside0 (Arr ((w.alloc (.cells (wd (List.replicate 32 0)).toArray 76)).alloc (.cells (wd (List.replicate 32 0)).toArray 76)) w.heap.size 76 (List.replicate 32 0)) := ⟨(Arr.new w 76 _).alloc _⟩
  have A1 : Aside0 (Arr ((w.alloc (.cells (wd (List.replicate 32 0)).toArray 76)).alloc (.cells (wd (List.replicate 32 0)).toArray 76)) (w.heap.size + 1) 76 (List.replicate 32 0)) := ⟨by
    have h := Arr.new (w.alloc (.cells (wd (List.replicate 32 0)).toArray 76)) 76 (List.replicate 32 0)
    rwa [show (w.alloc (.cells (wd (List.replicate 32 0)).toArray 76)).heap.size = w.heap.size + 1 by simp] at h⟩
  rw [zeros_wd] at B1 A0 A1
  go_enter Tryd.func51, Tryd.ntmps51
  go_wp2
  go_loopw [5] (fun v5 wr => ∃ j : Nat, v5 = .int .i64 j ∧ j ≤ 32 ∧ Aside0 (Below w.heap.size w wr) ∧ Aside0 (Arr wr w.heap.size 76 (List.replicate 32 0)) ∧ Aside0 (Arr wr (w.heap.size + 1) 76 (part (Crc.twc m) j))) (fun v5 _ => 32 - (intOf v5).toNat)
  case atStart => exact ⟨0, rfl, by omega, B1, A0, by rw [part_zero]; exact A1⟩
  case round =>
    clear B1 A0 A1
    obtain ⟨j, rfl, hj, hB, h0, h1⟩ := hrel
    by_cases hlt : j < 32
    · have hg : g < w.heap.size := HA.out.lt
      have HA1 := Aside0.mk (HA.out.below hB.out hg)
      have hc := HA1.out.cell (i := j) (by rw [HM.out.len]; exact hlt)
      obtain ⟨x, hx⟩ : ∃ x, m.getD j 0 = x := ⟨_, rfl⟩
      have hxl := Aside0.mk (HM.out.lt j)
      rw [hx] at hc hxl
      have hc2 := h1.out.cell (i := j) (by rw [part_length HT.out.len hj]; exact hlt)
      have hf2 := h1.out.frozen j
      have HX := Aside0.mk hx
      obtain ⟨y, hy⟩ : ∃ y, (part (Crc.twc m) j).getD j 0 = y := ⟨_, rfl⟩
      rw [hy] at hc2
      clear hx hy
      go_wp2_with (first | (go_at_call 52; (with_reducible refine (times_calls _ g x m HM.out HA1.out hxl.out).mono ?_); rintro e w' ⟨rfl, rfl⟩))
      go_roundw
      case rel =>
        refine ⟨j + 1, by go_num, by omega, ⟨hB.out.setCell (by simp) _⟩, ⟨h0.out.far (by simp) _⟩, ⟨?_⟩⟩
        have hs := h1.out.set_ j (Crc.tms m x 32)
        have hv : Crc.tms m x 32 = (Crc.twc m).getD j 0 := by
          unfold Crc.twc
          rw [List.getD_eq_getElem?_getD, List.getElem?_map, List.getElem?_range hlt]
          show _ = Crc.tms m (m.getD j 0) 32
          rw [HX.out]
        rw [hv, part_set HT.out.len hlt, ← hv] at hs
        exact hs
      case measure => simp [intOf]; omega
    · obtain rfl : j = 32 := by omega
      have h2 := h1.out
      rw [part_end HT.out.len] at h2
      have h0' := h0.out
      unfold Arr at h2 h0'
      go_wp2_with (first
        | (with_reducible refine wpList_load_row rfl 76 (.tmp 3) rfl (w.heap.size + 1) rfl 76 _ (0, 0) _ h2 Tryd.underlying76 rfl (info76_of HT.out.len) ?_)
        | (with_reducible refine wpList_store_row rfl 76 (.tmp 2) (.tmp 18) rfl w.heap.size _ rfl rfl 76 _ h0' (info76_of HT.out.len) (by simp [wd_length, HT.out.len]) (wd_one _) ?_))
      refine bodyPost_ret (v := .agg (wd (Crc.twc m)).toArray) (results_cell_row rfl _ _ w.heap.size 76 _ (0, 0) _ rfl (setRow_heap wr w.heap.size _ _ 76 _ h0') Tryd.underlying76 rfl (info76_of HT.out.len)) rfl ⟨rfl, ?_⟩
      exact below_setRow_ hB.out (Nat.le_refl _) _

theorem poly_wd : (wd (part Crc.one 1)).toArray = #[.int .u32 2197175160, .int .u32 0, .int .u32 0, .int .u32 0, .int .u32 0, .int .u32 0, .int .u32 0, .int .u32 0, .int .u32 0, .int .u32 0, .int .u32 0, .int .u32 0, .int .u32 0, .int .u32 0, .int .u32 0, .int .u32 0, .int .u32 0, .int .u32 0, .int .u32 0, .int .u32 0, .int .u32 0, .int .u32 0, .int .u32 0, .int .u32 0, .int .u32 0, .int .u32 0, .int .u32 0, .int .u32 0, .int .u32 0, .int .u32 0, .int .u32 0, .int .u32 0] := rfl
theorem one_get (j : Nat) (h : j < 31) : Crc.one.getD (j + 1) 0 = 2 ^ j := by
  unfold Crc.one
  rw [List.getD_cons_succ, List.getD_eq_getElem?_getD, List.getElem?_map, List.getElem?_range h]
  rfl
set_option maxHeartbeats 1000000 in
set_option maxRecDepth 100000 in
theorem one_calls (w : World) : Calls Tryd.prog 50 #[] w fun e w' => e = .returned (.agg (wd Crc.one).toArray) ∧ Below w.heap.size w w' := by
  have HT := Aside0.mk Crc.one_ok
  have B1 : Aside0 (Below w.heap.size w ((w.alloc (.cells (wd (List.replicate 32 0)).toArray 76)).alloc (.cells (wd (part Crc.one 1)).toArray 76))) := ⟨((Below.refl _ _).alloc (Nat.le_refl _) _).alloc (by simp) _⟩
  have A0 : Aside0 (Arr ((w.alloc (.cells (wd (List.replicate 32 0)).toArray 76)).alloc (.cells (wd (part Crc.one 1)).toArray 76)) w.heap.size 76 (List.replicate 32 0)) := ⟨(Arr.new w 76 _).alloc _⟩
  have A1 : Aside0 (Arr ((w.alloc (.cells (wd (List.replicate 32 0)).toArray 76)).alloc (.cells (wd (part Crc.one 1)).toArray 76)) (w.heap.size + 1) 76 (part Crc.one 1)) := ⟨by
    have h := Arr.new (w.alloc (.cells (wd (List.replicate 32 0)).toArray 76)) 76 (part Crc.one 1)
    rwa [show (w.alloc (.cells (wd (List.replicate 32 0)).toArray 76)).heap.size = w.heap.size + 1 by simp] at h⟩
  rw [zeros_wd, poly_wd] at B1 A0 A1
  go_enter Tryd.func50, Tryd.ntmps50
  go_wp2
  go_loopw [4] (fun v4 wr => ∃ j : Nat, v4 = .int .i64 j ∧ j ≤ 31 ∧ Aside0 (Below w.heap.size w wr) ∧ Aside0 (Arr wr w.heap.size 76 (List.replicate 32 0)) ∧ Aside0 (Arr wr (w.heap.size + 1) 76 (part Crc.one (j + 1)))) (fun v4 _ => 31 - (intOf v4).toNat)
  case atStart => exact ⟨0, rfl, by omega, B1, A0, A1⟩
  case round =>
    clear B1 A0 A1
    obtain ⟨j, rfl, hj, hB, h0, h1⟩ := hrel
    by_cases hlt : j < 31
    · have hc2 := h1.out.cell (i := j + 1) (by rw [part_length HT.out.len (by omega)]; omega)
      have hf2 := h1.out.frozen (j + 1)
      obtain ⟨y, hy⟩ : ∃ y, (part Crc.one (j + 1)).getD (j + 1) 0 = y := ⟨_, rfl⟩
      rw [hy] at hc2
      clear hy
      go_wp2
      go_roundw
      case rel =>
        refine ⟨j + 1, by go_num, by omega, ⟨hB.out.setCell (by simp) _⟩, ⟨h0.out.far (by simp) _⟩, ⟨?_⟩⟩
        have hs := h1.out.set_ (j + 1) (2 ^ j)
        rw [← one_get j hlt, part_set HT.out.len (by omega), one_get j hlt] at hs
        have hp : (2 : Int) ^ j % 4294967296 = ((2 ^ j : Nat) : Int) := by
          have h2 : 2 ^ j < 2 ^ 32 := Nat.pow_lt_pow_right (by decide) (by omega)
          have e : ((2 ^ j : Nat) : Int) = (2 : Int) ^ j := by simp
          rw [← e]
          exact Int.emod_eq_of_lt (Int.natCast_nonneg _) (Int.ofNat_lt.2 h2)
        rw [hp]
        exact hs
      case measure => simp [intOf]; omega
    · obtain rfl : j = 31 := by omega
      have h2 := h1.out
      rw [part_end HT.out.len] at h2
      have h0' := h0.out
      unfold Arr at h2 h0'
      go_wp2_with (first
        | (with_reducible refine wpList_load_row rfl 76 (.tmp 1) rfl (w.heap.size + 1) rfl 76 _ (0, 0) _ h2 Tryd.underlying76 rfl (info76_of HT.out.len) ?_)
        | (with_reducible refine wpList_store_row rfl 76 (.tmp 0) (.tmp 13) rfl w.heap.size _ rfl rfl 76 _ h0' (info76_of HT.out.len) (by simp [wd_length, HT.out.len]) (wd_one _) ?_))
      refine bodyPost_ret (v := .agg (wd Crc.one).toArray) (results_cell_row rfl _ _ w.heap.size 76 _ (0, 0) _ rfl (setRow_heap wr w.heap.size _ _ 76 _ h0') Tryd.underlying76 rfl (info76_of HT.out.len)) rfl ⟨rfl, ?_⟩
      exact below_setRow_ hB.out (Nat.le_refl _) _

def eights : Nat → List Nat
  | 0 => Crc.one
  | j + 1 => Crc.twc (eights j)
theorem eights_ok : ∀ j, Crc.Ok (eights j)
  | 0 => Crc.one_ok
  | j + 1 => Crc.twc_ok (eights_ok j)
set_option maxHeartbeats 4000000 in
set_option maxRecDepth 100000 in
theorem shift_calls (w : World) (r n : Nat) (hr : r < 4294967296) (hn : n ≤ 1048576) :
    Calls Tryd.prog 41 #[.int .u32 (r : Int), .int .i64 (n : Int)] w fun e w' => e = .returned (.int .u32 (Crc.shift r n : Int)) ∧ Below w.heap.size w w' := by
  have HR := Aside0.mk hr
  clear hr
  obtain ⟨res, hres⟩ : ∃ x, Crc.shift r n = x := ⟨_, rfl⟩
  rw [hres]
  have HRES := Aside0.mk hres
  clear hres
  go_enter Tryd.func41, Tryd.ntmps41
  go_wp2_with (first
    | (go_at_call 50; (with_reducible refine (one_calls _).mono ?_); rintro e w1 ⟨rfl, hb1⟩; have hA0 := Arr.new w1 76 (List.replicate 32 0); rw [zeros_wd] at hA0; have hR1 := Aside0.mk (Arr.row hA0 Crc.one); unfold Arr at hA0; have hB1 := Aside0.mk (below_setRow_ (hb1.alloc hb1.size (.cells #[.int .u32 0, .int .u32 0, .int .u32 0, .int .u32 0, .int .u32 0, .int .u32 0, .int .u32 0, .int .u32 0, .int .u32 0, .int .u32 0, .int .u32 0, .int .u32 0, .int .u32 0, .int .u32 0, .int .u32 0, .int .u32 0, .int .u32 0, .int .u32 0, .int .u32 0, .int .u32 0, .int .u32 0, .int .u32 0, .int .u32 0, .int .u32 0, .int .u32 0, .int .u32 0, .int .u32 0, .int .u32 0, .int .u32 0, .int .u32 0, .int .u32 0, .int .u32 0] 76)) hb1.size (wd Crc.one).toArray); have hs1 := hb1.size; clear hb1)
    | (with_reducible refine wpList_store_row rfl 76 (.tmp 5) (.tmp 6) rfl w1.heap.size _ rfl rfl 76 _ hA0 (info76_of Crc.one_ok.len) (by simp [wd_length, Crc.one_ok.len]) (wd_one _) ?_))
  clear hA0
  obtain ⟨G, hG⟩ : ∃ G, w1.heap.size = G := ⟨_, rfl⟩
  rw [hG] at hR1 hB1 hs1 ⊢
  clear hG
  go_loopw [7] (fun v7 wr => ∃ j : Nat, v7 = .int .i64 j ∧ j ≤ 3 ∧ Aside0 (Below w.heap.size w wr) ∧ Aside0 (Arr wr G 76 (eights j))) (fun v7 _ => 3 - (intOf v7).toNat)
  case atStart => exact ⟨0, rfl, by omega, hB1, hR1⟩
  case round =>
    clear hB1 hR1
    obtain ⟨j, rfl, hj, hB, hA⟩ := hrel
    by_cases hlt : j < 3
    · go_wp2_with (first
        | (go_at_call 51; (with_reducible refine (twice_calls _ G (eights j) (eights_ok j) hA.out).mono ?_); rintro e w2 ⟨rfl, hb2⟩; have hA2 := hA.out.below hb2 hA.out.lt; have hR2 := Aside0.mk (Arr.row hA2 (Crc.twc (eights j))); unfold Arr at hA2; have hB2 := Aside0.mk (below_setRow_ (below_then hB.out hB.out.size hb2) hs1 (wd (Crc.twc (eights j))).toArray); clear hb2)
        | (with_reducible refine wpList_store_row rfl 76 (.tmp 5) (.tmp 9) rfl G _ rfl rfl 76 _ hA2 (info76_of (Crc.twc_ok (eights_ok j)).len) (by simp [wd_length, (Crc.twc_ok (eights_ok j)).len, (eights_ok j).len]) (wd_one _) ?_))
      go_roundw
      case rel => exact ⟨j + 1, by go_num, by omega, hB2, hR2⟩
      case measure => simp [intOf]; omega
    · have hj3 : j = 3 := by omega
      obtain ⟨m0, hm0⟩ : ∃ m, eights j = m := ⟨_, rfl⟩
      have hm0k : Aside0 (Crc.Ok m0) := ⟨by rw [← hm0]; exact eights_ok j⟩
      have hR0 : Aside0 (Crc.shf 64 m0 r n = res) := ⟨by rw [← HRES.out, ← hm0, hj3]; rfl⟩
      rw [hm0] at hA
      clear hm0 hj hj3
      obtain ⟨wo, hwo⟩ : ∃ wo : World, wo = wr := ⟨_, rfl⟩
      rw [← hwo] at hB hA ⊢
      clear hwo
      go_wp2
      go_loopw [0, 1] (fun v0 v1 wr => ∃ (k q m : Nat) (L : List Nat), v0 = .int .u32 q ∧ v1 = .int .i64 m ∧ m ≤ 1048576 ∧ Aside0 (q < 4294967296) ∧ Aside0 (Crc.Ok L) ∧ Aside0 (m < 2 ^ k) ∧ Aside0 (Crc.shf k L q m = res) ∧ Aside0 (Below w.heap.size w wr) ∧ Aside0 (Arr wr G 76 L)) (fun _ v1 _ => (intOf v1).toNat)
      case atStart => exact ⟨64, r, n, m0, rfl, rfl, hn, HR, hm0k, ⟨by omega⟩, hR0, hB, hA⟩
      case round =>
        clear hR0 hm0k hB hA
        obtain ⟨k, q, m, L, rfl, rfl, hm, hq, hL, hk, hF, hB, hA⟩ := hrel
        by_cases hpos : 0 < m
        · obtain ⟨k, rfl⟩ : ∃ k', k = k' + 1 := ⟨k - 1, by
            rcases Nat.eq_zero_or_pos k with h | h
            · have := hk.out
              subst h
              omega
            · omega⟩
          have f1 := Crc.walk_bit64 m (by omega)
          have f2 : (m : Int) / 2 = ((m / 2 : Nat) : Int) := by omega
          obtain ⟨b, hb⟩ : ∃ b, m % 2 = b := ⟨_, rfl⟩
          obtain ⟨m2, hm2⟩ : ∃ b, m / 2 = b := ⟨_, rfl⟩
          rw [hb] at f1
          rw [hm2] at f2
          have hm2l : m2 < m := by omega
          have hkk : Aside0 (m2 < 2 ^ k) := ⟨by have := hk.out; rw [Nat.pow_succ] at this; omega⟩
          have hbl : b = 1 ∨ b = 0 := by omega
          have HF : Aside0 (Crc.shf k (Crc.twc L) (if b = 1 then Crc.tms L q 32 else q) m2 = res) := ⟨by
            have := hF.out
            rw [Crc.shf, if_neg (by omega), hb, hm2] at this
            exact this⟩
          clear hb hm2 hF hk
          rcases hbl with h1 | h1
          · have u1 : ((b : Int) == 1) = true := by simp [h1]
            rw [if_pos h1] at HF
            clear h1
            go_wp2_with (first
              | (go_at_call 52; (with_reducible refine (times_calls _ G q L hL.out hA.out hq.out).mono ?_); rintro e w2 ⟨rfl, rfl⟩)
              | (go_at_call 51; (with_reducible refine (twice_calls _ G L hL.out hA.out).mono ?_); rintro e w2 ⟨rfl, hb2⟩; have hA2 := hA.out.below hb2 hA.out.lt; have hR2 := Aside0.mk (Arr.row hA2 (Crc.twc L)); unfold Arr at hA2; have hB2 := Aside0.mk (below_setRow_ (below_then hB.out hB.out.size hb2) hs1 (wd (Crc.twc L)).toArray); clear hb2)
              | (with_reducible refine wpList_store_row rfl 76 (.tmp 5) (.tmp 20) rfl G _ rfl rfl 76 _ hA2 (info76_of (Crc.twc_ok hL.out).len) (by simp [wd_length, (Crc.twc_ok hL.out).len, hL.out.len]) (wd_one _) ?_))
            go_roundw
            case rel => exact ⟨k, _, m2, Crc.twc L, rfl, rfl, by omega, ⟨Crc.tms_lt hL.out _ _⟩, ⟨Crc.twc_ok hL.out⟩, hkk, HF, hB2, hR2⟩
            case measure => simp [intOf]; omega
          · have u1 : ((b : Int) == 1) = false := by simp [h1]
            rw [if_neg (by omega)] at HF
            clear h1
            go_wp2_with (first
              | (go_at_call 51; (with_reducible refine (twice_calls _ G L hL.out hA.out).mono ?_); rintro e w2 ⟨rfl, hb2⟩; have hA2 := hA.out.below hb2 hA.out.lt; have hR2 := Aside0.mk (Arr.row hA2 (Crc.twc L)); unfold Arr at hA2; have hB2 := Aside0.mk (below_setRow_ (below_then hB.out hB.out.size hb2) hs1 (wd (Crc.twc L)).toArray); clear hb2)
              | (with_reducible refine wpList_store_row rfl 76 (.tmp 5) (.tmp 20) rfl G _ rfl rfl 76 _ hA2 (info76_of (Crc.twc_ok hL.out).len) (by simp [wd_length, (Crc.twc_ok hL.out).len, hL.out.len]) (wd_one _) ?_))
            go_roundw
            case rel => exact ⟨k, q, m2, Crc.twc L, rfl, rfl, by omega, hq, ⟨Crc.twc_ok hL.out⟩, hkk, HF, hB2, hR2⟩
            case measure => simp [intOf]; omega
        · obtain rfl : m = 0 := by omega
          go_wp2
          go_ret
          refine ⟨?_, hB.out⟩
          have hf := hF.out
          have h0 : Crc.shf k L q 0 = q := by
            cases k with
            | zero => rfl
            | succ k => rw [Crc.shf, if_pos rfl]
          rw [h0] at hf
          rw [← hf]
          rfl
end Go.Proofs.YthkcnkhhaiapfaaDoor
