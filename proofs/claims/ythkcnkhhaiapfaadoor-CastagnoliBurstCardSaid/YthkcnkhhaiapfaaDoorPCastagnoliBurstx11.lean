/- Functions that the law reaches, each as a Lean function with the proof that the Go code comes to its answers; laid by wip/hook.py, a program of this session, over the print of the kit. -/
import Derived.Test.YthkcnkhhaiapfaaDoorPCastagnoliBurstx0
import Derived.Test.YthkcnkhhaiapfaaDoorPCastagnoliBurstx1
import Derived.Test.YthkcnkhhaiapfaaDoorPCastagnoliBurstx3
import Derived.Test.YthkcnkhhaiapfaaDoorPCastagnoliBurstx10
namespace Go.Proofs.YthkcnkhhaiapfaaDoor.PCastagnoliBurst
open Go.RowKit Go.Proofs.YthkcnkhhaiapfaaDoorW.PrintWords Go.Proofs.YthkcnkhhaiapfaaDoorW.PrintLast Go.Proofs.YthkcnkhhaiapfaaDoorW.PrintMore
attribute [local go_sem] max2_int min2_int max_two min_two max_three min_three max_four min_four   -- for this text's walks alone
set_option linter.unusedVariables false
set_option linter.unusedSimpArgs false

/-! ### aquiferlaw01_CastagnoliBurst: function 6 -/
mutual
def aquiferlaw01_CastagnoliBurst.j0 : Nat → List Int → Int → Int → Bool → Option (Bool)
  | 0, _, _, _, _ => none
  | k + 1, x0, x1, x2, x20 => if x20 = true then ((aquiferlaw01_works.f).bind fun t107 => (some t107)) else (if (wrap64 (8 * (x0.length : Int))) = 0 then (none) else ((some (([] : List Int) : List Int)).bind fun y108 => (if y108.length + x0.length < 140737488355328 then (aquiferlaw01_CastagnoliBurst.l0 k x0 x2 (wrap64 (8 * (x0.length : Int))) (Int.tmod (wrap64 ((Int.tmod x1 (wrap64 (8 * (x0.length : Int)))) + (wrap64 (8 * (x0.length : Int))))) (wrap64 (8 * (x0.length : Int)))) (y108 ++ x0) false 0) else (none))))
def aquiferlaw01_CastagnoliBurst.l0 : Nat → List Int → Int → Int → Int → List Int → Bool → Int → Option (Bool)
  | 0, _, _, _, _, _, _, _ => none
  | k + 1, x0, x2, x7, x8, x9, x10, x11 => if x11 < 32 then (aquiferlaw01_CastagnoliBurst.j2 k x0 x2 x7 x8 x9 x10 x11 (decide ((wrap64 (x8 + x11)) < x7))) else (aquiferlaw01_CastagnoliBurst.j2 k x0 x2 x7 x8 x9 x10 x11 false)
def aquiferlaw01_CastagnoliBurst.j2 : Nat → List Int → Int → Int → Int → List Int → Bool → Int → Bool → Option (Bool)
  | 0, _, _, _, _, _, _, _, _ => none
  | k + 1, x0, x2, x7, x8, x9, x10, x11, x43 => if x43 = true then (if 0 ≤ (IntKind.u64.wrap (x11)) then (if (Go.bits .and .u32 (shr .u32 x2 (IntKind.u64.wrap (x11))) 1) = 1 then (if 0 ≤ (wrap64 (Int.tdiv (wrap64 (x8 + x11)) 8)) then (if (wrap64 (Int.tdiv (wrap64 (x8 + x11)) 8)) < (x9.length : Int) then (if 0 ≤ (IntKind.u64.wrap (Int.tmod (wrap64 (x8 + x11)) 8)) then (aquiferlaw01_CastagnoliBurst.l0 k x0 x2 x7 x8 (x9.set ((wrap64 (Int.tdiv (wrap64 (x8 + x11)) 8)) : Int).toNat (Go.bits .xor .u8 (rd x9 (wrap64 (Int.tdiv (wrap64 (x8 + x11)) 8))) (shl .u8 1 (IntKind.u64.wrap (Int.tmod (wrap64 (x8 + x11)) 8))))) true (wrap64 (x11 + 1))) else (none)) else (none)) else (none)) else (aquiferlaw01_CastagnoliBurst.l0 k x0 x2 x7 x8 x9 x10 (wrap64 (x11 + 1)))) else (none)) else ((castagnoli_Sum.f x9).bind fun t116 => ((castagnoli_Sum.f x0).bind fun t117 => (if (x10 == (t116 != t117)) = true then ((aquiferlaw01_works.f).bind fun t118 => (some t118)) else (some false))))
end
def aquiferlaw01_CastagnoliBurst.f (k : Nat) (l0 : List Int) (a1 : Int) (a2 : Int) : Option (Bool) := (aquiferlaw01_few.f l0).bind fun t104 => (if (t104.length : Int) = 0 then (aquiferlaw01_CastagnoliBurst.j0 k t104 a1 a2 true) else (aquiferlaw01_CastagnoliBurst.j0 k t104 a1 a2 (a2 == 0)))
theorem aquiferlaw01_CastagnoliBurst.mono_l : ∀ k, (∀ y0 y1 y2 y3, LeO (aquiferlaw01_CastagnoliBurst.j0 k y0 y1 y2 y3) (aquiferlaw01_CastagnoliBurst.j0 (k + 1) y0 y1 y2 y3)) ∧ (∀ y0 y1 y2 y3 y4 y5 y6, LeO (aquiferlaw01_CastagnoliBurst.l0 k y0 y1 y2 y3 y4 y5 y6) (aquiferlaw01_CastagnoliBurst.l0 (k + 1) y0 y1 y2 y3 y4 y5 y6)) ∧ (∀ y0 y1 y2 y3 y4 y5 y6 y7, LeO (aquiferlaw01_CastagnoliBurst.j2 k y0 y1 y2 y3 y4 y5 y6 y7) (aquiferlaw01_CastagnoliBurst.j2 (k + 1) y0 y1 y2 y3 y4 y5 y6 y7))
  | 0 => ⟨fun _ _ _ _ r h => by simp [aquiferlaw01_CastagnoliBurst.j0] at h, fun _ _ _ _ _ _ _ r h => by simp [aquiferlaw01_CastagnoliBurst.l0] at h, fun _ _ _ _ _ _ _ _ r h => by simp [aquiferlaw01_CastagnoliBurst.j2] at h⟩
  | k + 1 => by
    obtain ⟨ih0, ih1, ih2⟩ := aquiferlaw01_CastagnoliBurst.mono_l k
    refine ⟨?_, ?_, ?_⟩
    · intro y0 y1 y2 y3
      unfold aquiferlaw01_CastagnoliBurst.j0
      repeat' first
      | (with_reducible exact ih0 _ _ _ _)
      | (with_reducible exact ih1 _ _ _ _ _ _ _)
      | (with_reducible exact ih2 _ _ _ _ _ _ _ _)
      | (with_reducible exact LeO.refl _)
      | (with_reducible exact LeO.none _)
      | (with_reducible refine LeO.ite ?_ ?_)
      | (with_reducible refine LeO.bind ?_ (fun _ => ?_))
      | exact ih0 _ _ _ _
      | exact ih1 _ _ _ _ _ _ _
      | exact ih2 _ _ _ _ _ _ _ _
      | exact LeO.none _
      | refine LeO.ite ?_ ?_
      | refine LeO.bind ?_ (fun _ => ?_)
    · intro y0 y1 y2 y3 y4 y5 y6
      unfold aquiferlaw01_CastagnoliBurst.l0
      repeat' first
      | (with_reducible exact ih0 _ _ _ _)
      | (with_reducible exact ih1 _ _ _ _ _ _ _)
      | (with_reducible exact ih2 _ _ _ _ _ _ _ _)
      | (with_reducible exact LeO.refl _)
      | (with_reducible exact LeO.none _)
      | (with_reducible refine LeO.ite ?_ ?_)
      | (with_reducible refine LeO.bind ?_ (fun _ => ?_))
      | exact ih0 _ _ _ _
      | exact ih1 _ _ _ _ _ _ _
      | exact ih2 _ _ _ _ _ _ _ _
      | exact LeO.none _
      | refine LeO.ite ?_ ?_
      | refine LeO.bind ?_ (fun _ => ?_)
    · intro y0 y1 y2 y3 y4 y5 y6 y7
      unfold aquiferlaw01_CastagnoliBurst.j2
      repeat' first
      | (with_reducible exact ih0 _ _ _ _)
      | (with_reducible exact ih1 _ _ _ _ _ _ _)
      | (with_reducible exact ih2 _ _ _ _ _ _ _ _)
      | (with_reducible exact LeO.refl _)
      | (with_reducible exact LeO.none _)
      | (with_reducible refine LeO.ite ?_ ?_)
      | (with_reducible refine LeO.bind ?_ (fun _ => ?_))
      | exact ih0 _ _ _ _
      | exact ih1 _ _ _ _ _ _ _
      | exact ih2 _ _ _ _ _ _ _ _
      | exact LeO.none _
      | refine LeO.ite ?_ ?_
      | refine LeO.bind ?_ (fun _ => ?_)
theorem aquiferlaw01_CastagnoliBurst.mono : ∀ a0 a1 a2 k, LeO (aquiferlaw01_CastagnoliBurst.f k a0 a1 a2) (aquiferlaw01_CastagnoliBurst.f (k + 1) a0 a1 a2) := by
  intro a0 a1 a2 k
  obtain ⟨ih0, ih1, ih2⟩ := aquiferlaw01_CastagnoliBurst.mono_l k
  unfold aquiferlaw01_CastagnoliBurst.f
  repeat' first
      | (with_reducible exact ih0 _ _ _ _)
      | (with_reducible exact ih1 _ _ _ _ _ _ _)
      | (with_reducible exact ih2 _ _ _ _ _ _ _ _)
      | (with_reducible exact LeO.refl _)
      | (with_reducible exact LeO.none _)
      | (with_reducible refine LeO.ite ?_ ?_)
      | (with_reducible refine LeO.bind ?_ (fun _ => ?_))
      | exact ih0 _ _ _ _
      | exact ih1 _ _ _ _ _ _ _
      | exact ih2 _ _ _ _ _ _ _ _
      | exact LeO.none _
      | refine LeO.ite ?_ ?_
      | refine LeO.bind ?_ (fun _ => ?_)
set_option maxHeartbeats 8000000 in
set_option maxRecDepth 100000 in
theorem aquiferlaw01_CastagnoliBurst.calls (k : Nat) (A0 : Option Addr) (c0 : Nat) (l0 : List Int) (a1 : Int) (a2 : Int) (r : Bool) (w : World) (hr0 : Kd.C (Kd.int .u8) w A0 l0.length l0) (hc0 : l0.length ≤ c0) (h : aquiferlaw01_CastagnoliBurst.f k l0 a1 a2 = some r) (hG : Glob w) :
    Calls Tryd.prog 6 #[.slice A0 l0.length c0, .int .i64 a1, .int .u32 a2] w fun e w' => e = .returned (.bool r) ∧ Below w.heap.size w w' := by
  have HG := Aside0.mk hG
  clear hG
  have HR0 := Aside0.mk hr0
  have HC0 := Aside0.mk hc0
  clear hr0 hc0
  have HB := Aside0.mk (Below.refl w.heap.size w)
  have H : ((aquiferlaw01_few.f l0).bind fun t104 => (if (t104.length : Int) = 0 then (aquiferlaw01_CastagnoliBurst.j0 k t104 a1 a2 true) else (aquiferlaw01_CastagnoliBurst.j0 k t104 a1 a2 (a2 == 0)))) = some r := h
  clear h
  replace H := Option.bind_eq_some_iff.mp H
  obtain ⟨t104, A40, H⟩ := H
  replace H : (if (t104.length : Int) = 0 then (aquiferlaw01_CastagnoliBurst.j0 k t104 a1 a2 true) else (aquiferlaw01_CastagnoliBurst.j0 k t104 a1 a2 (a2 == 0))) = some r := H
  have A4 := Aside0.mk A40
  clear A40
  have HC5 := Aside0.mk H
  clear H
  go_enter Tryd.func6, Tryd.ntmps6
  go_upto_region 2 with (first | ((with_reducible refine gate_callee (f := 15) rfl ?_); refine goesL_ (some 13) rfl rfl Tryd.func15 (by kernel_rfl) rfl #[.slice A0 l0.length c0] rfl (by (try simp only [List.map_toArray, List.map_cons, List.map_nil]); first | done | rfl | (simp only [List.length_drop, List.length_take]; rfl)) ?_; (with_reducible refine (aquiferlaw01_few.calls _ _ l0 t104 _ ?side1 ?side2 A4.out).mono ?_); (case side1 => repeat (first | exact HR0.out | (with_reducible refine Kd.C_alloc ?_ _) | (with_reducible refine Kd.C_drewN ?_ _) | (with_reducible refine Kd.C_drew ?_))); (case side2 => exact HC0.out); rintro e w6 ⟨v105, rfl, ho0, hb⟩; refine ⟨_, rfl, ?_⟩; have n0_ := Aside0.mk (Kd.R_lower ho0 (below_size (by repeat (first | (with_reducible first | exact HB.out | apply below_alloc | apply pw_below_drewN | apply below_drew1) | exact HB.out)))); have n1_ := Aside0.mk (below_step (by repeat (first | (with_reducible first | exact HB.out | apply below_alloc | apply pw_below_drewN | apply below_drew1) | exact HB.out)) hb); clear HB; have HO106 := n0_; have HB := n1_; clear n0_ n1_; (try clear hb); (try clear hb2); (try clear hk); (try clear hi); (try clear ho0)))
  (try simp only [Act.put, List.setIfInBounds_toArray, List.set_cons_zero, List.set_cons_succ])
  go_cut [20] (fun v20 wc => ∃ (kq : Nat) (x20_4 : Bool), v20 = .bool x20_4 ∧ Aside0 (aquiferlaw01_CastagnoliBurst.j0 kq t104 a1 a2 x20_4 = some r) ∧ Aside0 (kq ≤ k) ∧ Aside0 (Kd.R (Kd.int .u8) 5 wc w.heap.size (fun _ => True) v105 t104) ∧ Aside0 (Below w.heap.size w wc))
  case first =>
    have H := HC5.out
    clear HC5
    by_cases c7 : (t104.length : Int) = 0
    · rw [if_pos c7] at H
      have c7b0 : ((t104.length : Int) == 0) = true := beq_iff_eq.mpr c7
      have c7b1 : ((t104.length : Int) != 0) = false := bne_eq_false_iff_eq.mpr c7
      clear c7
      (first | rw [c7b0] | (simp only [i64_w, i32_w]; rw [c7b0]) | skip)
      have H' := Aside0.mk H
      clear H
      obtain ⟨Ao8, co8, eo8⟩ := Kd.R_slice HO106.out
      subst eo8
      go_wp2
      go_meet
      case rel => exact ⟨_, (true), (by first | rfl | (simp; done) | (simp [*]; done)), H', ⟨by first | omega | exact Nat.le_refl _⟩, ⟨by (with_reducible repeat (first | apply Kd.R_alloc | apply Kd.R_drewN | apply Kd.R_drew)); exact HO106.out⟩, ⟨by repeat (first | (with_reducible first | exact HB.out | apply below_alloc | apply pw_below_drewN | apply below_drew1) | exact HB.out)⟩⟩
    · rw [if_neg c7] at H
      have c7b0 : ((t104.length : Int) == 0) = false := beq_eq_false_iff_ne.mpr c7
      have c7b1 : ((t104.length : Int) != 0) = true := bne_iff_ne.mpr c7
      have c7b2 : ¬ (t104 = []) := fun h_ => c7 (by rw [h_]; rfl)
      (first | rw [c7b0] | (simp only [i64_w, i32_w]; rw [c7b0]) | skip)
      have H' := Aside0.mk H
      clear H
      obtain ⟨Ao9, co9, eo9⟩ := Kd.R_slice HO106.out
      subst eo9
      go_wp2
      go_meet
      case rel => exact ⟨_, ((a2 == 0)), (by first | rfl | (simp; done) | (simp [*]; done)), H', ⟨by first | omega | exact Nat.le_refl _⟩, ⟨by (with_reducible repeat (first | apply Kd.R_alloc | apply Kd.R_drewN | apply Kd.R_drew)); exact HO106.out⟩, ⟨by repeat (first | (with_reducible first | exact HB.out | apply below_alloc | apply pw_below_drewN | apply below_drew1) | exact HB.out)⟩⟩
  case rest =>
    clear HC5
    try clear c1
    try clear p2
    try clear c6
    try clear c7
    try clear c7b0
    try clear c7b1
    try clear c7b2
    obtain ⟨kq, x20_4, rfl, HA, HJ4, HO_0, HB⟩ := hcut
    cases kq with
    | zero => exact absurd HA.out (by simp [aquiferlaw01_CastagnoliBurst.j0])
    | succ kj4 =>
      have H := HA.out
      clear HA
      simp only [aquiferlaw01_CastagnoliBurst.j0] at H
      by_cases c10 : x20_4 = true
      · subst c10
        have H1 : ((aquiferlaw01_works.f).bind fun t107 => (some t107)) = some r := by rw [if_pos rfl] at H; exact H
        clear H
        have H := H1
        clear H1
        replace H := Option.bind_eq_some_iff.mp H
        obtain ⟨t107, A110, H⟩ := H
        replace H : (some t107) = some r := H
        have A11 := Aside0.mk A110
        clear A110
        obtain rfl := Option.some.inj H
        go_wp2_with (first | ((with_reducible refine gate_callee (f := 20) rfl ?_); refine goesL_ (some 21) rfl rfl Tryd.func20 (by kernel_rfl) rfl #[] rfl (by (try simp only [List.map_toArray, List.map_cons, List.map_nil]); first | done | rfl | (simp only [List.length_drop, List.length_take]; rfl)) ?_; (with_reducible refine (aquiferlaw01_works.calls  t107 _ A11.out (HG.out.below (by repeat (first | (with_reducible first | exact HB.out | apply below_alloc | apply pw_below_drewN | apply below_drew1) | exact HB.out)))).mono ?_); rintro e w12 ⟨rfl, hb⟩; refine ⟨_, rfl, ?_⟩; have n0_ := Aside0.mk (Kd.R_below (by (with_reducible repeat (first | apply Kd.R_alloc | apply Kd.R_drewN | apply Kd.R_drew)); exact HO_0.out) hb); have n1_ := Aside0.mk (below_step (by repeat (first | (with_reducible first | exact HB.out | apply below_alloc | apply pw_below_drewN | apply below_drew1) | exact HB.out)) hb); clear HO_0; clear HB; have HO_0 := n0_; have HB := n1_; clear n0_ n1_; (try clear hb); (try clear hb2); (try clear hk); (try clear hi)))
        go_ret
        exact ⟨by first | rfl | (simp [errW_none, errW_some] <;> rfl) | (simp [*, errW_none, errW_some] <;> rfl), by repeat (first | (with_reducible first | exact HB.out | apply below_alloc | apply pw_below_drewN | apply below_drew1) | exact HB.out)⟩
      · replace c10 := Bool.eq_false_iff.mpr c10
        subst c10
        have H1 : (if (wrap64 (8 * (t104.length : Int))) = 0 then (none) else ((some (([] : List Int) : List Int)).bind fun y108 => (if y108.length + t104.length < 140737488355328 then (aquiferlaw01_CastagnoliBurst.l0 kj4 t104 a2 (wrap64 (8 * (t104.length : Int))) (Int.tmod (wrap64 ((Int.tmod a1 (wrap64 (8 * (t104.length : Int)))) + (wrap64 (8 * (t104.length : Int))))) (wrap64 (8 * (t104.length : Int)))) (y108 ++ t104) false 0) else (none)))) = some r := by rw [if_neg (show ¬ (false = true) by decide)] at H; exact H
        clear H
        have H := H1
        clear H1
        by_cases c13 : (wrap64 (8 * (t104.length : Int))) = 0
        · rw [if_pos c13] at H
          exact absurd H (by simp)
        · rw [if_neg c13] at H
          have c13b0 : ((wrap64 (8 * (t104.length : Int))) == 0) = false := beq_eq_false_iff_ne.mpr c13
          have c13b1 : ((wrap64 (8 * (t104.length : Int))) != 0) = true := bne_iff_ne.mpr c13
          obtain ⟨y108, hy108⟩ : ∃ y_ : List Int, y_ = (([] : List Int)) := ⟨_, rfl⟩
          replace H : (if y108.length + t104.length < 140737488355328 then (aquiferlaw01_CastagnoliBurst.l0 kj4 t104 a2 (wrap64 (8 * (t104.length : Int))) (Int.tmod (wrap64 ((Int.tmod a1 (wrap64 (8 * (t104.length : Int)))) + (wrap64 (8 * (t104.length : Int))))) (wrap64 (8 * (t104.length : Int)))) (y108 ++ t104) false 0) else (none)) = some r := by first | (rw [hy108]; with_reducible exact H) | (have H2_ := (Option.bind_some _ _).symm.trans H; rw [hy108]; with_reducible exact H2_) | (have H2_ := (Option.bind_some _ _).symm.trans H; with_reducible exact H2_) | with_reducible exact H | (rw [hy108]; exact H) | exact H
          have Ny108 := Aside0.mk hy108
          clear hy108
          by_cases c14 : y108.length + t104.length < 140737488355328
          · rw [if_pos c14] at H
            have LMc14 := Aside0.mk c14
            clear c14
            obtain ⟨y111, hy111⟩ : ∃ y_ : List Int, y_ = (y108 ++ t104) := ⟨_, rfl⟩
            replace H : (aquiferlaw01_CastagnoliBurst.l0 kj4 t104 a2 (wrap64 (8 * (t104.length : Int))) (Int.tmod (wrap64 ((Int.tmod a1 (wrap64 (8 * (t104.length : Int)))) + (wrap64 (8 * (t104.length : Int))))) (wrap64 (8 * (t104.length : Int)))) y111 false 0) = some r := by first | (rw [hy111]; with_reducible exact H) | (have H2_ := (Option.bind_some _ _).symm.trans H; rw [hy111]; with_reducible exact H2_) | (have H2_ := (Option.bind_some _ _).symm.trans H; with_reducible exact H2_) | with_reducible exact H | (rw [hy111]; exact H) | exact H
            have Ny111 := Aside0.mk hy111
            clear hy111
            have H' := Aside0.mk H
            clear H
            obtain ⟨Ao15, co15, eo15⟩ := Kd.R_slice HO_0.out
            subst eo15
            go_wp2_with (first | ((with_reducible refine gate_dst (N := 32) rfl ?_); refine Kd.R_lit (Kd.int .u8) _ 5 ?hg (N := 32) ?hd (xs := ([] : List Int)) (inner := []) (ok := fun _ => True) (okp := fun _ => True) ?hr ?hp (fun _ hk => hk) trivial (Below.refl _ _) (Nat.le_refl _) (by simp) ?_; (case hd => rfl); (case hg => rfl); (case hr => first | (go_simp; done) | (go_simp; rfl)); (case hp => exact (Reps.none _ _)); intro v109 w16 ho17 hb hg_ hnew_; clear hg_ hnew_; (first | rw [← Ny108.out] at ho17 | (simp only [Int.reduceToNat] at ho17; rw [← Ny108.out] at ho17)); have n0_ := Aside0.mk (Kd.R_elder' (by (with_reducible repeat (first | apply Kd.R_alloc | apply Kd.R_drewN | apply Kd.R_drew)); exact HO_0.out) (Kd.R_base ho17) hb); have n1_ := Aside0.mk (Kd.R_lower (Kd.R_new' ho17 (Kd.R_lt (by (with_reducible repeat (first | apply Kd.R_alloc | apply Kd.R_drewN | apply Kd.R_drew)); exact HO_0.out))) (below_size (by repeat (first | (with_reducible first | exact HB.out | apply below_alloc | apply pw_below_drewN | apply below_drew1) | exact HB.out)))); have n2_ := Aside0.mk (below_step (by repeat (first | (with_reducible first | exact HB.out | apply below_alloc | apply pw_below_drewN | apply below_drew1) | exact HB.out)) hb); clear HO_0; clear HB; have HO_0 := n0_; have HO110 := n1_; have HB := n2_; clear n0_ n1_ n2_; clear hb ho17) | ((with_reducible refine gate_builtin (b := .append) (xs := #[.tmp 32, .tmp 33]) rfl ?_); at_builtin; refine Kd.R_append_rows (Kd.int .u8) (w0 := w) w.heap.size rfl (.tmp 32) (.tmp 33) 23 5 (.int .u8 0) 1 rfl Tryd.underlying23 info5 rfl (by decide) (by omega) v109 y108 t104 _ _ _ (fun k_ => some k_ ≠ (.slice Ao15 t104.length co15 : Value).ownBlock) (fun _ => False) rfl rfl ?aO ?aR (fun _ _ h => h) (fun _ h => h.elim) ?aF ?aB ?aS ?aL ?_; (case aR => repeat (first | exact (Kd.R_reads' HO_0.out).2.2 | (with_reducible refine Kd.C_alloc ?_ _) | (with_reducible refine Kd.C_drewN ?_ _) | (with_reducible refine Kd.C_drew ?_))); (case aB => exact (by repeat (first | (with_reducible first | exact HB.out | apply below_alloc | apply pw_below_drewN | apply below_drew1) | exact HB.out))); (case aF => exact (fun k_ hk => Kd.fresh' (Kd.R_lt (by (with_reducible repeat (first | apply Kd.R_alloc | apply Kd.R_drewN | apply Kd.R_drew)); exact HO_0.out)) k_ hk)); (case aO => exact (by (with_reducible repeat (first | apply Kd.R_alloc | apply Kd.R_drewN | apply Kd.R_drew)); exact Kd.R_mono HO110.out (fun _ hk => hk.2))); (case aS => exact (below_size (by repeat (first | (with_reducible first | exact HB.out | apply below_alloc | apply pw_below_drewN | apply below_drew1) | exact HB.out)))); (case aL => have := LMc14.out; omega); intro v112 w18 ho hb hg hat; rw [← Ny111.out] at ho; have n0_ := Aside0.mk (Kd.R_after (ok := (fun _ => True)) (by (with_reducible repeat (first | apply Kd.R_alloc | apply Kd.R_drewN | apply Kd.R_drew)); exact HO_0.out) hg hat); have n1_ := Aside0.mk (hb); have n2_ := Aside0.mk (ho); clear HO_0; clear HB; clear HO110; have HO_0 := n0_; have HB := n1_; have HO113 := n2_; clear n0_ n1_ n2_; clear ho hb hg hat))
            go_loopg [10, 11] kj4 (fun kq v10 v11 w' => ∃ (x9_2 : List Int) (x10_2 : Bool) (x11_2 : Int), v10 = .bool x10_2 ∧ v11 = .int .i64 x11_2 ∧ Aside0 (aquiferlaw01_CastagnoliBurst.l0 kq t104 a2 (wrap64 (8 * (t104.length : Int))) (Int.tmod (wrap64 ((Int.tmod a1 (wrap64 (8 * (t104.length : Int)))) + (wrap64 (8 * (t104.length : Int))))) (wrap64 (8 * (t104.length : Int)))) x9_2 x10_2 x11_2 = some r) ∧ Aside0 (kq ≤ kj4) ∧ Aside0 (Kd.R (Kd.int .u8) 5 w' w.heap.size (fun k_ => some k_ ≠ (v112 : Value).ownBlock) (.slice Ao15 t104.length co15) t104) ∧ Aside0 (Kd.R (Kd.int .u8) 5 w' w.heap.size (fun k_ => some k_ ≠ ((.slice Ao15 t104.length co15) : Value).ownBlock) v112 x9_2) ∧ Aside0 (Below w.heap.size w w'))
            case atStart => exact ⟨(y111), (false), (0), (by first | rfl | (simp; done) | (simp [*]; done)), (by first | rfl | (simp; done) | (simp [*]; done)), H', ⟨Nat.le_refl _⟩, ⟨by (with_reducible repeat (first | apply Kd.R_alloc | apply Kd.R_drewN | apply Kd.R_drew)); exact Kd.R_mono HO_0.out (fun _ hk => hk.2)⟩, ⟨by (with_reducible repeat (first | apply Kd.R_alloc | apply Kd.R_drewN | apply Kd.R_drew)); exact HO113.out⟩, ⟨by repeat (first | (with_reducible first | exact HB.out | apply below_alloc | apply pw_below_drewN | apply below_drew1) | exact HB.out)⟩⟩
            case round =>
              clear H'
              try clear c1
              try clear c2
              try clear p2
              try clear c6
              try clear p6
              try clear c7
              try clear c7b0
              try clear c7b1
              try clear c7b2
              try clear c10
              try clear c13
              try clear c13b0
              try clear c13b1
              try clear c14
              try clear c15
              try clear p2
              obtain ⟨x9_2, x10_2, x11_2, rfl, rfl, HA, HK2, HO_0, HO_9, HB⟩ := hrel
              cases gk with
              | zero => exact absurd HA.out (by simp [aquiferlaw01_CastagnoliBurst.l0])
              | succ k2 =>
                have H := HA.out
                clear HA
                simp only [aquiferlaw01_CastagnoliBurst.l0] at H
                have HC19 := Aside0.mk H
                clear H
                go_upto_region 9 with (fail)
                go_cut [43] (fun v43 wc => ∃ (kq : Nat) (x43_18 : Bool), v43 = .bool x43_18 ∧ Aside0 (aquiferlaw01_CastagnoliBurst.j2 kq t104 a2 (wrap64 (8 * (t104.length : Int))) (Int.tmod (wrap64 ((Int.tmod a1 (wrap64 (8 * (t104.length : Int)))) + (wrap64 (8 * (t104.length : Int))))) (wrap64 (8 * (t104.length : Int)))) x9_2 x10_2 x11_2 x43_18 = some r) ∧ Aside0 (kq ≤ k2) ∧ Aside0 (Kd.R (Kd.int .u8) 5 wc w.heap.size (fun k_ => some k_ ≠ (v112 : Value).ownBlock) (.slice Ao15 t104.length co15) t104) ∧ Aside0 (Kd.R (Kd.int .u8) 5 wc w.heap.size (fun k_ => some k_ ≠ ((.slice Ao15 t104.length co15) : Value).ownBlock) v112 x9_2) ∧ Aside0 (Below w.heap.size w wc))
                case first =>
                  have H := HC19.out
                  clear HC19
                  by_cases c20 : x11_2 < 32
                  · rw [if_pos c20] at H
                    have c20b0 : decide (x11_2 < 32) = true := decide_eq_true c20
                    clear c20
                    (first | rw [c20b0] | (simp only [i64_w, i32_w]; rw [c20b0]) | skip)
                    have H' := Aside0.mk H
                    clear H
                    go_wp2
                    go_meet
                    case rel => exact ⟨_, (decide ((wrap64 ((Int.tmod (wrap64 ((Int.tmod a1 (wrap64 (8 * (t104.length : Int)))) + (wrap64 (8 * (t104.length : Int))))) (wrap64 (8 * (t104.length : Int)))) + x11_2)) < (wrap64 (8 * (t104.length : Int))))), (by first | rfl | (simp; done) | (simp [*]; done)), H', ⟨by have := HJ4.out; have := HK2.out; first | omega | exact Nat.le_refl _⟩, ⟨by (with_reducible repeat (first | apply Kd.R_alloc | apply Kd.R_drewN | apply Kd.R_drew)); exact HO_0.out⟩, ⟨by (with_reducible repeat (first | apply Kd.R_alloc | apply Kd.R_drewN | apply Kd.R_drew)); exact HO_9.out⟩, ⟨by repeat (first | (with_reducible first | exact HB.out | apply below_alloc | apply pw_below_drewN | apply below_drew1) | exact HB.out)⟩⟩
                  · rw [if_neg c20] at H
                    have c20b0 : decide (x11_2 < 32) = false := decide_eq_false c20
                    clear c20
                    (first | rw [c20b0] | (simp only [i64_w, i32_w]; rw [c20b0]) | skip)
                    have H' := Aside0.mk H
                    clear H
                    go_wp2
                    go_meet
                    case rel => exact ⟨_, (false), (by first | rfl | (simp; done) | (simp [*]; done)), H', ⟨by have := HJ4.out; have := HK2.out; first | omega | exact Nat.le_refl _⟩, ⟨by (with_reducible repeat (first | apply Kd.R_alloc | apply Kd.R_drewN | apply Kd.R_drew)); exact HO_0.out⟩, ⟨by (with_reducible repeat (first | apply Kd.R_alloc | apply Kd.R_drewN | apply Kd.R_drew)); exact HO_9.out⟩, ⟨by repeat (first | (with_reducible first | exact HB.out | apply below_alloc | apply pw_below_drewN | apply below_drew1) | exact HB.out)⟩⟩
                case rest =>
                  clear HC19
                  try clear c1
                  try clear c2
                  try clear p2
                  try clear c6
                  try clear p6
                  try clear c7
                  try clear c7b0
                  try clear c7b1
                  try clear c7b2
                  try clear c10
                  try clear c13
                  try clear c13b0
                  try clear c13b1
                  try clear c14
                  try clear c15
                  try clear c20
                  try clear c20b0
                  try clear p2
                  try clear p6
                  obtain ⟨kq, x43_18, rfl, HA, HJ18, HO_0, HO_9, HB⟩ := hcut
                  cases kq with
                  | zero => exact absurd HA.out (by simp [aquiferlaw01_CastagnoliBurst.j2])
                  | succ kj18 =>
                    have H := HA.out
                    clear HA
                    simp only [aquiferlaw01_CastagnoliBurst.j2] at H
                    by_cases c21 : x43_18 = true
                    · subst c21
                      have H1 : (if 0 ≤ (IntKind.u64.wrap (x11_2)) then (if (Go.bits .and .u32 (shr .u32 a2 (IntKind.u64.wrap (x11_2))) 1) = 1 then (if 0 ≤ (wrap64 (Int.tdiv (wrap64 ((Int.tmod (wrap64 ((Int.tmod a1 (wrap64 (8 * (t104.length : Int)))) + (wrap64 (8 * (t104.length : Int))))) (wrap64 (8 * (t104.length : Int)))) + x11_2)) 8)) then (if (wrap64 (Int.tdiv (wrap64 ((Int.tmod (wrap64 ((Int.tmod a1 (wrap64 (8 * (t104.length : Int)))) + (wrap64 (8 * (t104.length : Int))))) (wrap64 (8 * (t104.length : Int)))) + x11_2)) 8)) < (x9_2.length : Int) then (if 0 ≤ (IntKind.u64.wrap (Int.tmod (wrap64 ((Int.tmod (wrap64 ((Int.tmod a1 (wrap64 (8 * (t104.length : Int)))) + (wrap64 (8 * (t104.length : Int))))) (wrap64 (8 * (t104.length : Int)))) + x11_2)) 8)) then (aquiferlaw01_CastagnoliBurst.l0 kj18 t104 a2 (wrap64 (8 * (t104.length : Int))) (Int.tmod (wrap64 ((Int.tmod a1 (wrap64 (8 * (t104.length : Int)))) + (wrap64 (8 * (t104.length : Int))))) (wrap64 (8 * (t104.length : Int)))) (x9_2.set ((wrap64 (Int.tdiv (wrap64 ((Int.tmod (wrap64 ((Int.tmod a1 (wrap64 (8 * (t104.length : Int)))) + (wrap64 (8 * (t104.length : Int))))) (wrap64 (8 * (t104.length : Int)))) + x11_2)) 8)) : Int).toNat (Go.bits .xor .u8 (rd x9_2 (wrap64 (Int.tdiv (wrap64 ((Int.tmod (wrap64 ((Int.tmod a1 (wrap64 (8 * (t104.length : Int)))) + (wrap64 (8 * (t104.length : Int))))) (wrap64 (8 * (t104.length : Int)))) + x11_2)) 8))) (shl .u8 1 (IntKind.u64.wrap (Int.tmod (wrap64 ((Int.tmod (wrap64 ((Int.tmod a1 (wrap64 (8 * (t104.length : Int)))) + (wrap64 (8 * (t104.length : Int))))) (wrap64 (8 * (t104.length : Int)))) + x11_2)) 8))))) true (wrap64 (x11_2 + 1))) else (none)) else (none)) else (none)) else (aquiferlaw01_CastagnoliBurst.l0 kj18 t104 a2 (wrap64 (8 * (t104.length : Int))) (Int.tmod (wrap64 ((Int.tmod a1 (wrap64 (8 * (t104.length : Int)))) + (wrap64 (8 * (t104.length : Int))))) (wrap64 (8 * (t104.length : Int)))) x9_2 x10_2 (wrap64 (x11_2 + 1)))) else (none)) = some r := by rw [if_pos rfl] at H; exact H
                      clear H
                      have H := H1
                      clear H1
                      obtain ⟨ji22, hji22⟩ : ∃ j_ : Int, (IntKind.u64.wrap (x11_2)) = j_ := ⟨_, rfl⟩
                      replace H : (if 0 ≤ (ji22) then (if (Go.bits .and .u32 (shr .u32 a2 (ji22)) 1) = 1 then (if 0 ≤ (wrap64 (Int.tdiv (wrap64 ((Int.tmod (wrap64 ((Int.tmod a1 (wrap64 (8 * (t104.length : Int)))) + (wrap64 (8 * (t104.length : Int))))) (wrap64 (8 * (t104.length : Int)))) + x11_2)) 8)) then (if (wrap64 (Int.tdiv (wrap64 ((Int.tmod (wrap64 ((Int.tmod a1 (wrap64 (8 * (t104.length : Int)))) + (wrap64 (8 * (t104.length : Int))))) (wrap64 (8 * (t104.length : Int)))) + x11_2)) 8)) < (x9_2.length : Int) then (if 0 ≤ (IntKind.u64.wrap (Int.tmod (wrap64 ((Int.tmod (wrap64 ((Int.tmod a1 (wrap64 (8 * (t104.length : Int)))) + (wrap64 (8 * (t104.length : Int))))) (wrap64 (8 * (t104.length : Int)))) + x11_2)) 8)) then (aquiferlaw01_CastagnoliBurst.l0 kj18 t104 a2 (wrap64 (8 * (t104.length : Int))) (Int.tmod (wrap64 ((Int.tmod a1 (wrap64 (8 * (t104.length : Int)))) + (wrap64 (8 * (t104.length : Int))))) (wrap64 (8 * (t104.length : Int)))) (x9_2.set ((wrap64 (Int.tdiv (wrap64 ((Int.tmod (wrap64 ((Int.tmod a1 (wrap64 (8 * (t104.length : Int)))) + (wrap64 (8 * (t104.length : Int))))) (wrap64 (8 * (t104.length : Int)))) + x11_2)) 8)) : Int).toNat (Go.bits .xor .u8 (rd x9_2 (wrap64 (Int.tdiv (wrap64 ((Int.tmod (wrap64 ((Int.tmod a1 (wrap64 (8 * (t104.length : Int)))) + (wrap64 (8 * (t104.length : Int))))) (wrap64 (8 * (t104.length : Int)))) + x11_2)) 8))) (shl .u8 1 (IntKind.u64.wrap (Int.tmod (wrap64 ((Int.tmod (wrap64 ((Int.tmod a1 (wrap64 (8 * (t104.length : Int)))) + (wrap64 (8 * (t104.length : Int))))) (wrap64 (8 * (t104.length : Int)))) + x11_2)) 8))))) true (wrap64 (x11_2 + 1))) else (none)) else (none)) else (none)) else (aquiferlaw01_CastagnoliBurst.l0 kj18 t104 a2 (wrap64 (8 * (t104.length : Int))) (Int.tmod (wrap64 ((Int.tmod a1 (wrap64 (8 * (t104.length : Int)))) + (wrap64 (8 * (t104.length : Int))))) (wrap64 (8 * (t104.length : Int)))) x9_2 x10_2 (wrap64 (x11_2 + 1)))) else (none)) = some r := by first | (rw [hji22] at H; exact H) | (simp only [hji22] at H ⊢; exact H)
                      by_cases c23 : 0 ≤ (ji22)
                      · rw [if_pos c23] at H
                        have c23b0 := eq_true c23
                        have c23b1 : decide (0 ≤ (ji22)) = true := decide_eq_true c23
                        clear c23
                        obtain ⟨ji24, hji24⟩ : ∃ j_ : Int, (shr .u32 a2 (ji22)) = j_ := ⟨_, rfl⟩
                        replace H : (if (Go.bits .and .u32 (ji24) 1) = 1 then (if 0 ≤ (wrap64 (Int.tdiv (wrap64 ((Int.tmod (wrap64 ((Int.tmod a1 (wrap64 (8 * (t104.length : Int)))) + (wrap64 (8 * (t104.length : Int))))) (wrap64 (8 * (t104.length : Int)))) + x11_2)) 8)) then (if (wrap64 (Int.tdiv (wrap64 ((Int.tmod (wrap64 ((Int.tmod a1 (wrap64 (8 * (t104.length : Int)))) + (wrap64 (8 * (t104.length : Int))))) (wrap64 (8 * (t104.length : Int)))) + x11_2)) 8)) < (x9_2.length : Int) then (if 0 ≤ (IntKind.u64.wrap (Int.tmod (wrap64 ((Int.tmod (wrap64 ((Int.tmod a1 (wrap64 (8 * (t104.length : Int)))) + (wrap64 (8 * (t104.length : Int))))) (wrap64 (8 * (t104.length : Int)))) + x11_2)) 8)) then (aquiferlaw01_CastagnoliBurst.l0 kj18 t104 a2 (wrap64 (8 * (t104.length : Int))) (Int.tmod (wrap64 ((Int.tmod a1 (wrap64 (8 * (t104.length : Int)))) + (wrap64 (8 * (t104.length : Int))))) (wrap64 (8 * (t104.length : Int)))) (x9_2.set ((wrap64 (Int.tdiv (wrap64 ((Int.tmod (wrap64 ((Int.tmod a1 (wrap64 (8 * (t104.length : Int)))) + (wrap64 (8 * (t104.length : Int))))) (wrap64 (8 * (t104.length : Int)))) + x11_2)) 8)) : Int).toNat (Go.bits .xor .u8 (rd x9_2 (wrap64 (Int.tdiv (wrap64 ((Int.tmod (wrap64 ((Int.tmod a1 (wrap64 (8 * (t104.length : Int)))) + (wrap64 (8 * (t104.length : Int))))) (wrap64 (8 * (t104.length : Int)))) + x11_2)) 8))) (shl .u8 1 (IntKind.u64.wrap (Int.tmod (wrap64 ((Int.tmod (wrap64 ((Int.tmod a1 (wrap64 (8 * (t104.length : Int)))) + (wrap64 (8 * (t104.length : Int))))) (wrap64 (8 * (t104.length : Int)))) + x11_2)) 8))))) true (wrap64 (x11_2 + 1))) else (none)) else (none)) else (none)) else (aquiferlaw01_CastagnoliBurst.l0 kj18 t104 a2 (wrap64 (8 * (t104.length : Int))) (Int.tmod (wrap64 ((Int.tmod a1 (wrap64 (8 * (t104.length : Int)))) + (wrap64 (8 * (t104.length : Int))))) (wrap64 (8 * (t104.length : Int)))) x9_2 x10_2 (wrap64 (x11_2 + 1)))) = some r := by first | (rw [hji24] at H; exact H) | (simp only [hji24] at H ⊢; exact H)
                        have hji24_ : (a2 / 2 ^ min (ji22).toNat 32) = ji24 := hji24
                        have hji24z : (ji22) ≤ 32 → (a2 / 2 ^ (ji22).toNat) = ji24 := shr_small hji24
                        by_cases c25 : (Go.bits .and .u32 (ji24) 1) = 1
                        · rw [if_pos c25] at H
                          have c25b0 : ((Go.bits .and .u32 (ji24) 1) == 1) = true := beq_iff_eq.mpr c25
                          have c25b1 : ((Go.bits .and .u32 (ji24) 1) != 1) = false := bne_eq_false_iff_eq.mpr c25
                          clear c25
                          obtain ⟨ji26, hji26⟩ : ∃ j_ : Int, (wrap64 (Int.tdiv (wrap64 ((Int.tmod (wrap64 ((Int.tmod a1 (wrap64 (8 * (t104.length : Int)))) + (wrap64 (8 * (t104.length : Int))))) (wrap64 (8 * (t104.length : Int)))) + x11_2)) 8)) = j_ := ⟨_, rfl⟩
                          replace H : (if 0 ≤ (ji26) then (if (ji26) < (x9_2.length : Int) then (if 0 ≤ (IntKind.u64.wrap (Int.tmod (wrap64 ((Int.tmod (wrap64 ((Int.tmod a1 (wrap64 (8 * (t104.length : Int)))) + (wrap64 (8 * (t104.length : Int))))) (wrap64 (8 * (t104.length : Int)))) + x11_2)) 8)) then (aquiferlaw01_CastagnoliBurst.l0 kj18 t104 a2 (wrap64 (8 * (t104.length : Int))) (Int.tmod (wrap64 ((Int.tmod a1 (wrap64 (8 * (t104.length : Int)))) + (wrap64 (8 * (t104.length : Int))))) (wrap64 (8 * (t104.length : Int)))) (x9_2.set ((ji26) : Int).toNat (Go.bits .xor .u8 (rd x9_2 (ji26)) (shl .u8 1 (IntKind.u64.wrap (Int.tmod (wrap64 ((Int.tmod (wrap64 ((Int.tmod a1 (wrap64 (8 * (t104.length : Int)))) + (wrap64 (8 * (t104.length : Int))))) (wrap64 (8 * (t104.length : Int)))) + x11_2)) 8))))) true (wrap64 (x11_2 + 1))) else (none)) else (none)) else (none)) = some r := by first | (rw [hji26] at H; exact H) | (simp only [hji26] at H ⊢; exact H)
                          have hji26w : (IntKind.i64.wrap (Int.tdiv (wrap64 ((Int.tmod (wrap64 ((Int.tmod a1 (wrap64 (8 * (t104.length : Int)))) + (wrap64 (8 * (t104.length : Int))))) (wrap64 (8 * (t104.length : Int)))) + x11_2)) 8)) = ji26 := (i64_w _).trans hji26
                          by_cases c27 : 0 ≤ (ji26)
                          · rw [if_pos c27] at H
                            have c27b0 : decide (0 ≤ (ji26)) = true := decide_eq_true c27
                            clear c27
                            by_cases c28 : (ji26) < (x9_2.length : Int)
                            · rw [if_pos c28] at H
                              have c28b0 : decide ((ji26) < (x9_2.length : Int)) = true := decide_eq_true c28
                              clear c28
                              obtain ⟨ji29, hji29⟩ : ∃ j_ : Int, (IntKind.u64.wrap (Int.tmod (wrap64 ((Int.tmod (wrap64 ((Int.tmod a1 (wrap64 (8 * (t104.length : Int)))) + (wrap64 (8 * (t104.length : Int))))) (wrap64 (8 * (t104.length : Int)))) + x11_2)) 8)) = j_ := ⟨_, rfl⟩
                              replace H : (if 0 ≤ (ji29) then (aquiferlaw01_CastagnoliBurst.l0 kj18 t104 a2 (wrap64 (8 * (t104.length : Int))) (Int.tmod (wrap64 ((Int.tmod a1 (wrap64 (8 * (t104.length : Int)))) + (wrap64 (8 * (t104.length : Int))))) (wrap64 (8 * (t104.length : Int)))) (x9_2.set ((ji26) : Int).toNat (Go.bits .xor .u8 (rd x9_2 (ji26)) (shl .u8 1 (ji29)))) true (wrap64 (x11_2 + 1))) else (none)) = some r := by first | (rw [hji29] at H; exact H) | (simp only [hji29] at H ⊢; exact H)
                              by_cases c30 : 0 ≤ (ji29)
                              · rw [if_pos c30] at H
                                have c30b0 := eq_true c30
                                have c30b1 : decide (0 ≤ (ji29)) = true := decide_eq_true c30
                                clear c30
                                obtain ⟨ji31, hji31⟩ : ∃ j_ : Int, (shl .u8 1 (ji29)) = j_ := ⟨_, rfl⟩
                                replace H : (aquiferlaw01_CastagnoliBurst.l0 kj18 t104 a2 (wrap64 (8 * (t104.length : Int))) (Int.tmod (wrap64 ((Int.tmod a1 (wrap64 (8 * (t104.length : Int)))) + (wrap64 (8 * (t104.length : Int))))) (wrap64 (8 * (t104.length : Int)))) (x9_2.set ((ji26) : Int).toNat (Go.bits .xor .u8 (rd x9_2 (ji26)) (ji31))) true (wrap64 (x11_2 + 1))) = some r := by first | (rw [hji31] at H; exact H) | (simp only [hji31] at H ⊢; exact H)
                                have hji31_ : (IntKind.u8.wrap (1 * 2 ^ min (ji29).toNat 8)) = ji31 := hji31
                                have hji31z : (ji29) ≤ 8 → (IntKind.u8.wrap (1 * 2 ^ (ji29).toNat)) = ji31 := shl_small hji31
                                have hji31u : (IntKind.u8.wrap (2 ^ min (ji29).toNat 8)) = ji31 := by have h_ := hji31_; rw [Int.one_mul] at h_; exact h_
                                have hji31v : (ji29) ≤ 8 → (IntKind.u8.wrap (2 ^ (ji29).toNat)) = ji31 := fun hle_ => by have h_ := hji31z hle_; rw [Int.one_mul] at h_; exact h_
                                obtain ⟨y115, hy115⟩ : ∃ y_ : List Int, y_ = (x9_2.set ((ji26) : Int).toNat (Go.bits .xor .u8 (rd x9_2 (ji26)) (ji31))) := ⟨_, rfl⟩
                                replace H : (aquiferlaw01_CastagnoliBurst.l0 kj18 t104 a2 (wrap64 (8 * (t104.length : Int))) (Int.tmod (wrap64 ((Int.tmod a1 (wrap64 (8 * (t104.length : Int)))) + (wrap64 (8 * (t104.length : Int))))) (wrap64 (8 * (t104.length : Int)))) y115 true (wrap64 (x11_2 + 1))) = some r := by first | (rw [hy115]; with_reducible exact H) | (have H2_ := (Option.bind_some _ _).symm.trans H; rw [hy115]; with_reducible exact H2_) | (have H2_ := (Option.bind_some _ _).symm.trans H; with_reducible exact H2_) | with_reducible exact H | (rw [hy115]; exact H) | exact H
                                have Ny115 := Aside0.mk hy115
                                clear hy115
                                have H' := Aside0.mk H
                                clear H
                                obtain ⟨Ao33, co33, eo33⟩ := Kd.R_slice HO_9.out
                                subst eo33
                                have p114 : 0 ≤ ((ji26) : Int) := of_decide_eq_true (by first | (with_reducible assumption) | assumption)
                                have q114 : (ji26) < (x9_2.length : Int) := of_decide_eq_true (by first | (with_reducible assumption) | assumption)
                                obtain ⟨ad114, e114, hx114_0⟩ := Kd.at_int (Kd.R_reads' HO_9.out).2.2 (ji26) p114 q114
                                cases e114
                                replace p114 := eq_true p114
                                replace q114 := eq_true q114
                                have p32 : 0 ≤ ((ji26) : Int) := of_decide_eq_true (by first | (with_reducible assumption) | assumption)
                                have q32 : ((ji26) : Int) < ((x9_2.length : Int) : Int) := of_decide_eq_true (by first | (with_reducible assumption) | assumption)
                                obtain ⟨go32, co32, eo32, gb32, gl32, cl32, HG32⟩ := Kd.R_form HO_9.out (by omega)
                                (first | cases eo32 | (injection eo32 with ea_ en_ ec_; (first | subst ea_ | (injection ea_ with ea_; subst ea_)); subst ec_; clear en_))
                                have GB32 := Aside0.mk gb32
                                have GG32 := Aside0.mk HG32
                                clear gb32 gl32 HG32
                                (first | simp only [add_plain] at hx114_0 | skip)
                                obtain ⟨hx32_0, hf32_0⟩ := Kd.R_celln 0 HO_9.out ((ji26) : Int) p32 q32
                                replace p32 := eq_true p32
                                replace q32 := eq_true q32
                                have HP34 := Kd.R_putg HO_9.out ((ji26) : Int) (Go.bits .xor .u8 (rd x9_2 (ji26)) (ji31))
                                go_wp2_with (first | ((with_reducible refine gate_store (t := 5) (p := 66) rfl ?_); refine store_event (t := 5) (p := 66) (v := ?vo_w35) (w1 := (wc.setCell ⟨go32, ((ji26) : Int).toNat, none⟩ (.int .u8 (Go.bits .xor .u8 (rd x9_2 (ji26)) (ji31))))) ?hg ?ho ?hn ?hr ?_; (case ho => rfl); (case hg => rfl); (case hn => rfl); (case hr => first | (go_simp; done) | (go_simp; rfl)); intro w35 hw; have hg : wc.grownBy w35 (some go32) := (by rw [hw]; exact HP34.2); have hp_ : Kd.R (Kd.int .u8) 5 w35 w.heap.size (fun k_ => some k_ ≠ (.slice Ao15 t104.length co15 : Value).ownBlock) (.slice (some ⟨go32, 0, none⟩) x9_2.length co33) y115 := (by rw [hw, Ny115.out]; exact HP34.1); clear HP34; have n0_ := Aside0.mk (Kd.R_after (v := (.slice (some ⟨go32, 0, none⟩) x9_2.length co33)) (v1 := (.slice (some ⟨go32, 0, none⟩) x9_2.length co33)) (ok := (fun _ => True)) (by (with_reducible repeat (first | apply Kd.R_alloc | apply Kd.R_drewN | apply Kd.R_drew)); exact Kd.R_mono HO_0.out (fun _ hk => ⟨trivial, hk⟩)) hg (.inl rfl)); have n1_ := Aside0.mk (hp_); have n2_ := Aside0.mk ((by rw [hw]; exact below_set (HB.out) GB32.out : Below w.heap.size w w35)); clear HO_0; clear HO_9; clear HB; have HO_0 := n0_; have HO_9 := n1_; have HB := n2_; clear n0_ n1_ n2_; clear hg hw hp_))
                                go_roundg kj18
                                case measure => have := HJ4.out; have := HK2.out; have := HJ18.out; omega
                                case rel => exact ⟨(y115), (true), (wrap64 (x11_2 + 1)), (by first | rfl | (simp; done) | (simp [*]; done)), (by first | rfl | (simp; done) | (simp [*]; done)), H', ⟨by have := HJ4.out; have := HK2.out; have := HJ18.out; omega⟩, ⟨by (with_reducible repeat (first | apply Kd.R_alloc | apply Kd.R_drewN | apply Kd.R_drew)); exact Kd.R_mono HO_0.out (fun _ hk => hk.2)⟩, ⟨by (with_reducible repeat (first | apply Kd.R_alloc | apply Kd.R_drewN | apply Kd.R_drew)); exact HO_9.out⟩, ⟨by repeat (first | (with_reducible first | exact HB.out | apply below_alloc | apply pw_below_drewN | apply below_drew1) | exact HB.out)⟩⟩
                              · rw [if_neg c30] at H
                                exact absurd H (by simp)
                            · rw [if_neg c28] at H
                              exact absurd H (by simp)
                          · rw [if_neg c27] at H
                            exact absurd H (by simp)
                        · rw [if_neg c25] at H
                          have c25b0 : ((Go.bits .and .u32 (ji24) 1) == 1) = false := beq_eq_false_iff_ne.mpr c25
                          have c25b1 : ((Go.bits .and .u32 (ji24) 1) != 1) = true := bne_iff_ne.mpr c25
                          have H' := Aside0.mk H
                          clear H
                          go_wp2
                          go_roundg kj18
                          case measure => have := HJ4.out; have := HK2.out; have := HJ18.out; omega
                          case rel => exact ⟨(x9_2), (x10_2), (wrap64 (x11_2 + 1)), (by first | rfl | (simp; done) | (simp [*]; done)), (by first | rfl | (simp; done) | (simp [*]; done)), H', ⟨by have := HJ4.out; have := HK2.out; have := HJ18.out; omega⟩, ⟨by (with_reducible repeat (first | apply Kd.R_alloc | apply Kd.R_drewN | apply Kd.R_drew)); exact HO_0.out⟩, ⟨by (with_reducible repeat (first | apply Kd.R_alloc | apply Kd.R_drewN | apply Kd.R_drew)); exact HO_9.out⟩, ⟨by repeat (first | (with_reducible first | exact HB.out | apply below_alloc | apply pw_below_drewN | apply below_drew1) | exact HB.out)⟩⟩
                      · rw [if_neg c23] at H
                        exact absurd H (by simp)
                    · replace c21 := Bool.eq_false_iff.mpr c21
                      subst c21
                      have H1 : ((castagnoli_Sum.f x9_2).bind fun t116 => ((castagnoli_Sum.f t104).bind fun t117 => (if (x10_2 == (t116 != t117)) = true then ((aquiferlaw01_works.f).bind fun t118 => (some t118)) else (some false)))) = some r := by rw [if_neg (show ¬ (false = true) by decide)] at H; exact H
                      clear H
                      have H := H1
                      clear H1
                      replace H := Option.bind_eq_some_iff.mp H
                      obtain ⟨t116, A360, H⟩ := H
                      replace H : ((castagnoli_Sum.f t104).bind fun t117 => (if (x10_2 == (t116 != t117)) = true then ((aquiferlaw01_works.f).bind fun t118 => (some t118)) else (some false))) = some r := H
                      have A36 := Aside0.mk A360
                      clear A360
                      replace H := Option.bind_eq_some_iff.mp H
                      obtain ⟨t117, A370, H⟩ := H
                      replace H : (if (x10_2 == (t116 != t117)) = true then ((aquiferlaw01_works.f).bind fun t118 => (some t118)) else (some false)) = some r := H
                      have A37 := Aside0.mk A370
                      clear A370
                      by_cases c38 : (x10_2 == (t116 != t117)) = true
                      · rw [if_pos c38] at H
                        have c38b0 : (x10_2 == (t116 != t117)) = true := c38
                        (try (have c38b1 : decide (x10_2 = (t116 != t117)) = true := by simpa using c38))
                        (try (have c38b2 : (x10_2 == (t116 != t117)) = true := by simpa using c38))
                        clear c38
                        replace H := Option.bind_eq_some_iff.mp H
                        obtain ⟨t118, A390, H⟩ := H
                        replace H : (some t118) = some r := H
                        have A39 := Aside0.mk A390
                        clear A390
                        obtain rfl := Option.some.inj H
                        obtain ⟨Ao40, co40, eo40⟩ := Kd.R_slice HO_9.out
                        subst eo40
                        go_wp2_with (first | ((with_reducible refine gate_callee (f := 16) rfl ?_); refine goesL_ (some 69) rfl rfl Tryd.func16 (by kernel_rfl) rfl #[.slice Ao40 x9_2.length co40] rfl (by (try simp only [List.map_toArray, List.map_cons, List.map_nil]); first | done | rfl | (simp only [List.length_drop, List.length_take]; rfl)) ?_; (with_reducible refine (castagnoli_Sum.calls _ _ x9_2 t116 _ ?side1 ?side2 A36.out (HG.out.below (by repeat (first | (with_reducible first | exact HB.out | apply below_alloc | apply pw_below_drewN | apply below_drew1) | exact HB.out)))).mono ?_); (case side1 => repeat (first | exact (Kd.R_reads' HO_9.out).2.2 | (with_reducible refine Kd.C_alloc ?_ _) | (with_reducible refine Kd.C_drewN ?_ _) | (with_reducible refine Kd.C_drew ?_))); (case side2 => exact (Kd.R_reads' HO_9.out).2.1); rintro e w41 ⟨rfl, hb⟩; refine ⟨_, rfl, ?_⟩; have n0_ := Aside0.mk (Kd.R_below (by (with_reducible repeat (first | apply Kd.R_alloc | apply Kd.R_drewN | apply Kd.R_drew)); exact HO_0.out) hb); have n1_ := Aside0.mk (Kd.R_below (by (with_reducible repeat (first | apply Kd.R_alloc | apply Kd.R_drewN | apply Kd.R_drew)); exact HO_9.out) hb); have n2_ := Aside0.mk (below_step (by repeat (first | (with_reducible first | exact HB.out | apply below_alloc | apply pw_below_drewN | apply below_drew1) | exact HB.out)) hb); clear HO_0; clear HO_9; clear HB; have HO_0 := n0_; have HO_9 := n1_; have HB := n2_; clear n0_ n1_ n2_; (try clear hb); (try clear hb2); (try clear hk); (try clear hi)) | ((with_reducible refine gate_callee (f := 16) rfl ?_); refine goesL_ (some 71) rfl rfl Tryd.func16 (by kernel_rfl) rfl #[.slice Ao15 t104.length co15] rfl (by (try simp only [List.map_toArray, List.map_cons, List.map_nil]); first | done | rfl | (simp only [List.length_drop, List.length_take]; rfl)) ?_; (with_reducible refine (castagnoli_Sum.calls _ _ t104 t117 _ ?side1 ?side2 A37.out (HG.out.below (by repeat (first | (with_reducible first | exact HB.out | apply below_alloc | apply pw_below_drewN | apply below_drew1) | exact HB.out)))).mono ?_); (case side1 => repeat (first | exact (Kd.R_reads' HO_0.out).2.2 | (with_reducible refine Kd.C_alloc ?_ _) | (with_reducible refine Kd.C_drewN ?_ _) | (with_reducible refine Kd.C_drew ?_))); (case side2 => exact (Kd.R_reads' HO_0.out).2.1); rintro e w42 ⟨rfl, hb⟩; refine ⟨_, rfl, ?_⟩; have n0_ := Aside0.mk (Kd.R_below (by (with_reducible repeat (first | apply Kd.R_alloc | apply Kd.R_drewN | apply Kd.R_drew)); exact HO_0.out) hb); have n1_ := Aside0.mk (Kd.R_below (by (with_reducible repeat (first | apply Kd.R_alloc | apply Kd.R_drewN | apply Kd.R_drew)); exact HO_9.out) hb); have n2_ := Aside0.mk (below_step (by repeat (first | (with_reducible first | exact HB.out | apply below_alloc | apply pw_below_drewN | apply below_drew1) | exact HB.out)) hb); clear HO_0; clear HO_9; clear HB; have HO_0 := n0_; have HO_9 := n1_; have HB := n2_; clear n0_ n1_ n2_; (try clear hb); (try clear hb2); (try clear hk); (try clear hi)) | (go_at_call 20; (with_reducible refine (aquiferlaw01_works.calls  t118 _ A39.out (HG.out.below (by repeat (first | (with_reducible first | exact HB.out | apply below_alloc | apply pw_below_drewN | apply below_drew1) | exact HB.out)))).mono ?_); rintro e w43 ⟨rfl, hb⟩; have n0_ := Aside0.mk (Kd.R_below (by (with_reducible repeat (first | apply Kd.R_alloc | apply Kd.R_drewN | apply Kd.R_drew)); exact HO_0.out) hb); have n1_ := Aside0.mk (Kd.R_below (by (with_reducible repeat (first | apply Kd.R_alloc | apply Kd.R_drewN | apply Kd.R_drew)); exact HO_9.out) hb); have n2_ := Aside0.mk (below_step (by repeat (first | (with_reducible first | exact HB.out | apply below_alloc | apply pw_below_drewN | apply below_drew1) | exact HB.out)) hb); clear HO_0; clear HO_9; clear HB; have HO_0 := n0_; have HO_9 := n1_; have HB := n2_; clear n0_ n1_ n2_; (try clear hb); (try clear hb2); (try clear hk); (try clear hi)))
                        go_ret
                        exact ⟨by first | rfl | (simp [errW_none, errW_some] <;> rfl) | (simp [*, errW_none, errW_some] <;> rfl), by repeat (first | (with_reducible first | exact HB.out | apply below_alloc | apply pw_below_drewN | apply below_drew1) | exact HB.out)⟩
                      · rw [if_neg c38] at H
                        have c38b0 : (x10_2 == (t116 != t117)) = false := by simpa using c38
                        (try (have c38b1 : decide (x10_2 = (t116 != t117)) = false := by simpa using c38))
                        (try (have c38b2 : (x10_2 == (t116 != t117)) = false := by simpa using c38))
                        (try (have c38b3 : ¬ (x10_2 = (t116 != t117)) := by simpa using c38))
                        clear c38
                        obtain rfl := Option.some.inj H
                        obtain ⟨Ao44, co44, eo44⟩ := Kd.R_slice HO_9.out
                        subst eo44
                        go_wp2_with (first | ((with_reducible refine gate_callee (f := 16) rfl ?_); refine goesL_ (some 69) rfl rfl Tryd.func16 (by kernel_rfl) rfl #[.slice Ao44 x9_2.length co44] rfl (by (try simp only [List.map_toArray, List.map_cons, List.map_nil]); first | done | rfl | (simp only [List.length_drop, List.length_take]; rfl)) ?_; (with_reducible refine (castagnoli_Sum.calls _ _ x9_2 t116 _ ?side1 ?side2 A36.out (HG.out.below (by repeat (first | (with_reducible first | exact HB.out | apply below_alloc | apply pw_below_drewN | apply below_drew1) | exact HB.out)))).mono ?_); (case side1 => repeat (first | exact (Kd.R_reads' HO_9.out).2.2 | (with_reducible refine Kd.C_alloc ?_ _) | (with_reducible refine Kd.C_drewN ?_ _) | (with_reducible refine Kd.C_drew ?_))); (case side2 => exact (Kd.R_reads' HO_9.out).2.1); rintro e w45 ⟨rfl, hb⟩; refine ⟨_, rfl, ?_⟩; have n0_ := Aside0.mk (Kd.R_below (by (with_reducible repeat (first | apply Kd.R_alloc | apply Kd.R_drewN | apply Kd.R_drew)); exact HO_0.out) hb); have n1_ := Aside0.mk (Kd.R_below (by (with_reducible repeat (first | apply Kd.R_alloc | apply Kd.R_drewN | apply Kd.R_drew)); exact HO_9.out) hb); have n2_ := Aside0.mk (below_step (by repeat (first | (with_reducible first | exact HB.out | apply below_alloc | apply pw_below_drewN | apply below_drew1) | exact HB.out)) hb); clear HO_0; clear HO_9; clear HB; have HO_0 := n0_; have HO_9 := n1_; have HB := n2_; clear n0_ n1_ n2_; (try clear hb); (try clear hb2); (try clear hk); (try clear hi)) | ((with_reducible refine gate_callee (f := 16) rfl ?_); refine goesL_ (some 71) rfl rfl Tryd.func16 (by kernel_rfl) rfl #[.slice Ao15 t104.length co15] rfl (by (try simp only [List.map_toArray, List.map_cons, List.map_nil]); first | done | rfl | (simp only [List.length_drop, List.length_take]; rfl)) ?_; (with_reducible refine (castagnoli_Sum.calls _ _ t104 t117 _ ?side1 ?side2 A37.out (HG.out.below (by repeat (first | (with_reducible first | exact HB.out | apply below_alloc | apply pw_below_drewN | apply below_drew1) | exact HB.out)))).mono ?_); (case side1 => repeat (first | exact (Kd.R_reads' HO_0.out).2.2 | (with_reducible refine Kd.C_alloc ?_ _) | (with_reducible refine Kd.C_drewN ?_ _) | (with_reducible refine Kd.C_drew ?_))); (case side2 => exact (Kd.R_reads' HO_0.out).2.1); rintro e w46 ⟨rfl, hb⟩; refine ⟨_, rfl, ?_⟩; have n0_ := Aside0.mk (Kd.R_below (by (with_reducible repeat (first | apply Kd.R_alloc | apply Kd.R_drewN | apply Kd.R_drew)); exact HO_0.out) hb); have n1_ := Aside0.mk (Kd.R_below (by (with_reducible repeat (first | apply Kd.R_alloc | apply Kd.R_drewN | apply Kd.R_drew)); exact HO_9.out) hb); have n2_ := Aside0.mk (below_step (by repeat (first | (with_reducible first | exact HB.out | apply below_alloc | apply pw_below_drewN | apply below_drew1) | exact HB.out)) hb); clear HO_0; clear HO_9; clear HB; have HO_0 := n0_; have HO_9 := n1_; have HB := n2_; clear n0_ n1_ n2_; (try clear hb); (try clear hb2); (try clear hk); (try clear hi)))
                        go_ret
                        exact ⟨by first | rfl | (simp [errW_none, errW_some] <;> rfl) | (simp [*, errW_none, errW_some] <;> rfl), by repeat (first | (with_reducible first | exact HB.out | apply below_alloc | apply pw_below_drewN | apply below_drew1) | exact HB.out)⟩
          · rw [if_neg c14] at H
            exact absurd H (by simp)

/-- THE ONE PURE STATEMENT of aquiferlaw01_CastagnoliBurst: yours. -/
def aquiferlaw01_CastagnoliBurst.Pure : Prop := ∀ (l0 : List Int) (a1 : Int) (a2 : Int), l0.length ≤ maxLen → l0.length * 1 ≤ 140737488351232 → (∀ x ∈ l0, (Lit.int .u8 x).wf = true) → (Lit.int .i64 a1).wf = true → (Lit.int .u32 a2).wf = true → ∃ k, aquiferlaw01_CastagnoliBurst.f k l0 a1 a2 = some true
theorem aquiferlaw01_CastagnoliBurst.walk (P : aquiferlaw01_CastagnoliBurst.Pure) (a0 : Option Addr) (len0 cap0 : Nat) (z0 : List Int) (a1 : Int) (a2 : Int) (w : World) (w0 : (a0 = none ∧ len0 = 0 ∧ cap0 = 0 ∧ z0 = []) ∨ ∃ x, a0 = some x ∧ len0 ≤ cap0 ∧ cap0 ≤ maxLen ∧ z0.length = cap0 ∧ (∀ i, i < z0.length → w.cell? (x.add i) = some (.int .u8 (z0.getD i 0))) ∧ ∀ n ∈ z0, (Lit.int .u8 n).wf = true) (y0 : len0 * 1 ≤ 140737488351232) (w1 : (Lit.int .i64 a1).wf = true) (w2 : (Lit.int .u32 a2).wf = true) (hG : Glob w) :
    Calls Tryd.prog 6 #[.slice a0 len0 cap0, .int .i64 a1, .int .u32 a2] w fun e w' => e = .returned (.bool true) ∧ Below w.heap.size w w' := by
  obtain ⟨l0, rfl, hr0, hm0, hw0, hc0⟩ := ReadsInt.ofRowC w0
  obtain ⟨k, h⟩ := P l0 a1 a2 hm0 y0 hw0 w1 w2
  refine (aquiferlaw01_CastagnoliBurst.calls k _ _ l0 a1 a2 true w (Kd.C_of_reads (d := (0 : Int)) (h1 := fun _ => rfl) hr0) hc0 h hG).mono ?_
  rintro e w' ⟨rfl, hd⟩
  exact ⟨rfl, hd⟩

end Go.Proofs.YthkcnkhhaiapfaaDoor.PCastagnoliBurst
