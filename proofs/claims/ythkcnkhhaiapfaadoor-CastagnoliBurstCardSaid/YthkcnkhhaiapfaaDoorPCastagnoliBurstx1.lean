/- Functions that the law reaches, each as a Lean function with the proof that the Go code comes to its answers; laid by wip/hook.py, a program of this session, over the print of the kit. -/
import Derived.Test.YthkcnkhhaiapfaaDoorPCastagnoliBurstx0
namespace Go.Proofs.YthkcnkhhaiapfaaDoor.PCastagnoliBurst
open Go.RowKit Go.Proofs.YthkcnkhhaiapfaaDoorW.PrintWords Go.Proofs.YthkcnkhhaiapfaaDoorW.PrintLast Go.Proofs.YthkcnkhhaiapfaaDoorW.PrintMore
attribute [local go_sem] max2_int min2_int max_two min_two max_three min_three max_four min_four   -- for this text's walks alone
set_option linter.unusedVariables false
set_option linter.unusedSimpArgs false

/-! ### aquiferlaw01_few: function 15 -/
def aquiferlaw01_few.f (l0 : List Int) : Option (List Int) := some (l0.take 2000)
set_option maxHeartbeats 1000000 in
set_option maxRecDepth 100000 in
theorem aquiferlaw01_few.calls (A0 : Option Addr) (c0 : Nat) (l0 : List Int) (r : List Int) (w : World) (hr0 : Kd.C (Kd.int .u8) w A0 l0.length l0) (hc0 : l0.length ≤ c0) (h : aquiferlaw01_few.f l0 = some r) :
    Calls Tryd.prog 15 #[.slice A0 l0.length c0] w fun e w' => ∃ v0_ : Value, e = .returned (v0_) ∧ Kd.R (Kd.int .u8) 5 w' w.heap.size (fun _ => True) v0_ r ∧ Below w.heap.size w w' := by
  have HR0 := Aside0.mk hr0
  have HB := Aside0.mk (Below.refl w.heap.size w)
  clear hr0
  obtain rfl := Option.some.inj h
  clear h
  obtain ⟨j, hj⟩ : ∃ j : Nat, min l0.length 2000 = j := ⟨_, rfl⟩
  have hji : (if 2000 < (l0.length : Int) then 2000 else (l0.length : Int)) = (j : Int) := by split <;> omega
  have hji2 : (if 2000 < l0.length then 2000 else (l0.length : Int)) = (j : Int) := by split <;> omega
  have hjl : j ≤ l0.length := by omega
  have hj2 : j ≤ 2000 := by omega
  obtain ⟨i5, hi5, _, hsz5, _⟩ := info_parts info5
  obtain ⟨hcut, hA, hC⟩ := print_take_of (P := Tryd.prog) (Value.int .u8) 0 23 5 .i64 Tryd.underlying23 hi5 hsz5 A0 c0 l0 (j : Int) (by omega) (by omega) hc0
  have HR := Aside0.mk (Kd.C_of_reads (h1 := fun _ => rfl) (hA _ (Kd.reads_of_C HR0.out)))
  rw [Int.toNat_natCast] at hcut hC HR
  obtain ⟨L, hL⟩ : ∃ L, l0.take j = L := ⟨_, rfl⟩
  have hLL : l0.take 2000 = L := by
    rw [← hL, ← hj]
    rcases Nat.le_total l0.length 2000 with h | h
    · rw [Nat.min_eq_left h, List.take_of_length_le h, List.take_of_length_le (Nat.le_refl _)]
    · rw [Nat.min_eq_right h]
  rw [hL] at hcut hC HR
  have hll : L.length ≤ 2000 := by rw [← hL, List.length_take]; omega
  rw [hLL]
  clear hA hi5 hsz5 hj hL hLL
  go_enter Tryd.func15, Tryd.ntmps15
  go_wp2_with (first
    | ((with_reducible refine gate_dst (N := 3) rfl ?_); refine Kd.R_lit (Kd.int .u8) _ 5 ?hg (N := 3) ?hd (xs := ([] : List Int)) (inner := []) (ok := fun _ => True) (okp := fun _ => True) ?hr ?hp (fun _ hk => hk) trivial (Below.refl _ _) (Nat.le_refl _) (by simp) ?_; (case hd => rfl); (case hg => rfl); (case hr => first | (go_simp; done) | (go_simp; rfl)); (case hp => exact (Reps.none _ _)); intro v1 w6 ho7 hb hg_ hnew_; clear hg_ hnew_; have HO := Aside0.mk (Kd.R_lower ho7 (Nat.le_refl _)); have HB1 := Aside0.mk hb; have HR1 := Aside0.mk (Kd.C_below HR.out hb); clear hb ho7)
    | ((with_reducible refine gate_builtin (b := .append) (xs := #[.tmp 3, .tmp 8]) rfl ?_); at_builtin; refine Kd.R_append_rows (Kd.int .u8) (w0 := w) w.heap.size rfl (.tmp 3) (.tmp 8) 23 5 (.int .u8 0) 1 rfl Tryd.underlying23 info5 rfl (by decide) (by omega) v1 [] L _ _ _ (fun _ => True) (fun _ => False) rfl rfl ?aO ?aR (fun _ _ h => h) (fun _ h => h.elim) ?aF ?aB ?aS ?aL ?_; (case aR => exact HR1.out); (case aB => exact HB1.out); (case aF => exact (fun _ _ => trivial)); (case aO => exact HO.out); (case aS => exact HB1.out.size); (case aL => simp; omega); intro v2 w9 ho hb hg hat; have HO2 := Aside0.mk ho; have HB2 := Aside0.mk hb; clear ho hb hg hat))
  go_ret
  refine ⟨_, rfl, ?_, HB2.out⟩
  have := HO2.out
  rwa [List.nil_append] at this


end Go.Proofs.YthkcnkhhaiapfaaDoor.PCastagnoliBurst
