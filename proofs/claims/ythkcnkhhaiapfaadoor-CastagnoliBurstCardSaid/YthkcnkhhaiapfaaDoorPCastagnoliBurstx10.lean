/- Functions that the law reaches, each as a Lean function with the proof that the Go code comes to its answers; laid by wip/hook.py, a program of this session, over the print of the kit. -/
import Derived.Test.YthkcnkhhaiapfaaDoorPCastagnoliBurstx0
import Derived.Test.YthkcnkhhaiapfaaDoorPCastagnoliBurstx3
import Derived.Test.YthkcnkhhaiapfaaDoorPCastagnoliBurstx9
namespace Go.Proofs.YthkcnkhhaiapfaaDoor.PCastagnoliBurst
open Go.RowKit Go.Proofs.YthkcnkhhaiapfaaDoorW.PrintWords Go.Proofs.YthkcnkhhaiapfaaDoorW.PrintLast Go.Proofs.YthkcnkhhaiapfaaDoorW.PrintMore
attribute [local go_sem] max2_int min2_int max_two min_two max_three min_three max_four min_four   -- for this text's walks alone
set_option linter.unusedVariables false
set_option linter.unusedSimpArgs false

/-! ### aquiferlaw01_works: function 20 -/
def aquiferlaw01_works.f : Option Bool := some true
theorem aquiferlaw01_works.lit (w : World) (l : List Int) (fr : Nat × Nat) (hl : l.length ≤ 100) : Kd.C (Kd.int .u8) (w.alloc (.cells (l.map (Value.int .u8)).toArray 5 fr)) (some ⟨w.heap.size, 0, none⟩) l.length l := by
  refine Kd.C_of_reads (enc := Value.int .u8) (d := (0 : Int)) (h1 := fun _ => rfl) ⟨rfl, by omega, fun _ => ⟨_, rfl, fun j hj => ?_⟩⟩
  rw [add_plain, cell_of_row _ _ _ _ 5 fr (heap_alloc_new w _)]
  simp [List.getD_eq_getElem?_getD, List.getElem?_eq_getElem hj]
set_option maxHeartbeats 2000000 in
set_option maxRecDepth 100000 in
theorem aquiferlaw01_works.calls (r : Bool) (w : World) (h : aquiferlaw01_works.f = some r) (hG : Glob w) :
    Calls Tryd.prog 20 #[] w fun e w' => e = .returned (.bool r) ∧ Below w.heap.size w w' := by
  obtain rfl := Option.some.inj h
  clear h
  have HG := Aside0.mk hG
  clear hG
  have kc := fun (w : World) (C : Array Value) (n c : Nat) => Lib.run_convert_bytes_const (P := Tryd.prog) w 23 5 C n c Tryd.underlying23 Tryd.underlying5
  have S1 := Aside0.mk (show castagnoli_Sum.f [49, 50, 51, 52] = some 4131058926 by decide +kernel)
  have S2 := Aside0.mk (show castagnoli_Sum.f [53, 54, 55, 56, 57] = some 2209703384 by decide +kernel)
  have S3 := Aside0.mk (show castagnoli_Sum.f [49, 50, 51, 52, 53, 54, 55, 56, 57] = some 3808858755 by decide +kernel)
  have S4 := Aside0.mk (show castagnoli_Sum.f [] = some 0 by decide +kernel)
  have S5 := Aside0.mk (show castagnoli_Combine.f 4131058926 2209703384 5 = some (3808858755, 0) by decide +kernel)
  go_enter Tryd.func20, Tryd.ntmps20
  go_wp2_with (first
    | (go_at_call 16; refine (castagnoli_Sum.calls _ 4 [49, 50, 51, 52] 4131058926 _ (aquiferlaw01_works.lit w [49, 50, 51, 52] (4, 5) (by decide)) (by decide) S1.out (HG.out.below ((Below.refl _ _).alloc (Nat.le_refl _) _))).mono ?_; rintro e w1 ⟨rfl, hb1⟩; have HB1 := Aside0.mk (below_then ((Below.refl w.heap.size w).alloc (Nat.le_refl _) _) (by simp) hb1); clear hb1)
    | (go_at_call 16; refine (castagnoli_Sum.calls _ 5 [53, 54, 55, 56, 57] 2209703384 _ (aquiferlaw01_works.lit w1 [53, 54, 55, 56, 57] (5, 6) (by decide)) (by decide) S2.out (HG.out.below (HB1.out.alloc HB1.out.size _))).mono ?_; rintro e w2 ⟨rfl, hb2⟩; have HB2 := Aside0.mk (below_then (HB1.out.alloc HB1.out.size _) (Nat.le_trans HB1.out.size (by simp)) hb2); clear hb2)
    | (go_at_call 25; refine (castagnoli_Combine.calls 4131058926 2209703384 5 3808858755 0 _ S5.out).mono ?_; rintro e w3 ⟨rfl, hb3⟩; have HB3 := Aside0.mk (below_then HB2.out HB2.out.size hb3); clear hb3)
    | (go_at_call 16; refine (castagnoli_Sum.calls _ 9 [49, 50, 51, 52, 53, 54, 55, 56, 57] 3808858755 _ (aquiferlaw01_works.lit w3 [49, 50, 51, 52, 53, 54, 55, 56, 57] (9, 10) (by decide)) (by decide) S3.out (HG.out.below (HB3.out.alloc HB3.out.size _))).mono ?_; rintro e w4 ⟨rfl, hb4⟩; have HB4 := Aside0.mk (below_then (HB3.out.alloc HB3.out.size _) (Nat.le_trans HB3.out.size (by simp)) hb4); clear hb4)
    | (go_at_call 16; refine (castagnoli_Sum.calls none 0 [] 0 _ (Kd.C_of_reads (enc := Value.int .u8) (d := (0 : Int)) (h1 := fun _ => rfl) ⟨rfl, by simp, fun h => absurd h (by simp)⟩) (by decide) S4.out (HG.out.below HB4.out)).mono ?_; rintro e w5 ⟨rfl, hb5⟩; have HB5 := Aside0.mk (below_then HB4.out HB4.out.size hb5); clear hb5))
  go_ret
  exact ⟨rfl, HB5.out⟩


end Go.Proofs.YthkcnkhhaiapfaaDoor.PCastagnoliBurst
