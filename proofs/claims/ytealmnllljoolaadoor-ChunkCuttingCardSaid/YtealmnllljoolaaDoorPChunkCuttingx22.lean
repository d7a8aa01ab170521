/- Functions that the law reaches, each as a Lean function with the proof that the Go code comes to its answers; laid by wip/hook.py, a program of this session, over the print of the kit. -/
import Derived.Test.YtealmnllljoolaaDoorPChunkCuttingx0
import Derived.Test.YtealmnllljoolaaDoorPChunkCuttingx2
import Derived.Test.YtealmnllljoolaaDoorPChunkCuttingx3
namespace Go.Proofs.YtealmnllljoolaaDoor.PChunkCutting
open Go.RowKit Go.Proofs.YtealmnllljoolaaDoorW.PrintWords Go.Proofs.YtealmnllljoolaaDoorW.PrintLast Go.Proofs.YtealmnllljoolaaDoorW.PrintMore
attribute [local go_sem] max2_int min2_int max_two min_two max_three min_three max_four min_four   -- for this text's walks alone
set_option linter.unusedVariables false
set_option linter.unusedSimpArgs false

/-! ### strings_Trim: function 5 -/
def strings_Trim.f (a0 : ByteArray) (a1 : ByteArray) : Option ByteArray :=
  if a1 = (⟨#[0]⟩ : ByteArray) then (if a0 = ByteArray.empty then some a0 else (strings_trimRightByte.f (a0.size + 1) a0 0).bind fun t => strings_trimLeftByte.f (a0.size + 1) t 0) else none
set_option maxHeartbeats 1000000 in
set_option maxRecDepth 100000 in
theorem strings_Trim.calls (a0 : ByteArray) (a1 : ByteArray) (r : ByteArray) (w : World) (h : strings_Trim.f a0 a1 = some r) :
    Calls Tryd.prog 5 #[.string a0, .string a1] w fun e w' => e = .returned (.string r) ∧ Drawn0 w w' := by
  unfold strings_Trim.f at h
  by_cases h1 : a1 = (⟨#[0]⟩ : ByteArray)
  case neg => rw [if_neg h1] at h; cases h
  rw [if_pos h1] at h
  subst h1
  by_cases h0 : a0 = ByteArray.empty
  · rw [if_pos h0] at h
    obtain rfl := Option.some.inj h
    clear h
    subst h0
    go_enter Tryd.func5, Tryd.ntmps5
    go_wp2
    go_ret
    exact ⟨rfl, by repeat (first | exact Drawn0.refl _ | apply Drawn0.step)⟩
  · rw [if_neg h0] at h
    obtain ⟨t, ht, hr⟩ := Option.bind_eq_some_iff.1 h
    clear h
    have HT := Aside0.mk ht
    have HR := Aside0.mk hr
    clear ht hr
    have hne : ¬ a0.toList = [] := fun e => h0 (by
      apply ByteArray.ext
      rw [ByteArray.toList_eq] at e
      exact Array.toList_eq_nil_iff.1 e)
    have k1 : (a0.toList == []) = false := beq_eq_false_iff_ne.2 hne
    clear hne
    have kb : ((⟨#[0]⟩ : ByteArray)[0]'(by decide)).toNat = 0 := rfl
    have kc : bt (⟨#[0]⟩ : ByteArray) 0 = 0 := by decide
    clear h0
    go_enter Tryd.func5, Tryd.ntmps5
    go_wp2
    go_quiet (first
      | (go_at_call 8; refine Calls.quiet_of ((strings_trimRightByte.calls _ _ _ _ _ HT.out).mono fun e w' h => ⟨h.1, h.2.out⟩))
      | (go_at_call 7; refine Calls.quiet_of ((strings_trimLeftByte.calls _ _ _ _ _ HR.out).mono fun e w' h => ⟨h.1, h.2.out⟩)))
    go_wp2
    go_ret
    exact ⟨rfl, by repeat (first | exact Drawn0.refl _ | apply Drawn0.step)⟩
theorem strings_Trim.allz_take {l : List Nat} {m : Nat} (hl : l.length = m + 1) (hz : l.getD m 0 = 0) : (∀ x ∈ l.take m, x = 0) ↔ ∀ x ∈ l, x = 0 := by
  constructor
  · intro h x hx
    rw [← List.take_append_drop m l, List.mem_append] at hx
    rcases hx with hx | hx
    · exact h x hx
    · have hd : l.drop m = [l.getD m 0] := by
        rw [List.drop_eq_getElem_cons (by omega), List.drop_of_length_le (by omega), List.getD_eq_getElem?_getD, List.getElem?_eq_getElem (by omega)]
        rfl
      rw [hd, hz] at hx
      simpa using hx
  · exact fun h x hx => h x (List.mem_of_mem_take hx)
theorem strings_Trim.allz_drop {l : List Nat} (hz : l.getD 0 0 = 0) : (∀ x ∈ l.drop 1, x = 0) ↔ ∀ x ∈ l, x = 0 := by
  cases l with
  | nil => simp
  | cons y l =>
    simp only [List.getD_cons_zero] at hz
    simp [hz]
theorem strings_Trim.empty_iff (s : ByteArray) : s.toList = [] ↔ s.size = 0 := by
  rw [ByteArray.toList_eq]
  constructor
  · intro h
    rw [← data_length, h]
    rfl
  · intro h
    rw [← data_length] at h
    exact List.eq_nil_of_length_eq_zero h
theorem strings_Trim.right : ∀ (k : Nat) (s : ByteArray), s.size < k → s.size < 100000 → ∃ t, strings_trimRightByte.l0 k s 0 = some t ∧ t.size ≤ s.size ∧ ((∀ x ∈ Page.nb t, x = 0) ↔ ∀ x ∈ Page.nb s, x = 0)
  | 0, _, h, _ => by omega
  | k + 1, s, h, hm => by
    rw [strings_trimRightByte.l0]
    by_cases h0 : s.size = 0
    · rw [if_neg (by omega)]
      exact ⟨s, rfl, Nat.le_refl _, Iff.rfl⟩
    · obtain ⟨m, hms⟩ : ∃ m, s.size = m + 1 := ⟨s.size - 1, by omega⟩
      have e : wrap64 ((s.size : Int) - 1) = (m : Int) := by unfold wrap64; omega
      have hl : (Page.nb s).length = m + 1 := by rw [Page.nb_length, hms]
      rw [if_pos (by omega), e, if_pos (by omega), if_pos (by omega), Page.bt_nb]
      by_cases hz : (Page.nb s).getD m 0 = 0
      · rw [if_pos (by omega), if_pos (by omega), Int.toNat_natCast]
        have hsz : (s.extract 0 m).size = m := by rw [ByteArray.size_extract]; omega
        obtain ⟨t, ht, htl, hi⟩ := strings_Trim.right k (s.extract 0 m) (by omega) (by omega)
        refine ⟨t, ht, by omega, hi.trans ?_⟩
        rw [Page.nb_extract, List.drop_zero, Nat.sub_zero]
        exact strings_Trim.allz_take hl hz
      · rw [if_neg (by omega)]
        exact ⟨s, rfl, Nat.le_refl _, Iff.rfl⟩
theorem strings_Trim.left : ∀ (k : Nat) (s : ByteArray), s.size < k → ∃ t, strings_trimLeftByte.l0 k s 0 = some t ∧ (t.toList = [] ↔ ∀ x ∈ Page.nb s, x = 0)
  | 0, _, h => by omega
  | k + 1, s, h => by
    rw [strings_trimLeftByte.l0]
    by_cases h0 : s.size = 0
    · rw [if_neg (by omega)]
      refine ⟨s, rfl, ?_⟩
      rw [strings_Trim.empty_iff]
      have : Page.nb s = [] := List.eq_nil_of_length_eq_zero (by rw [Page.nb_length, h0])
      rw [this]
      simp [h0]
    · have e0 := Page.bt_nb s 0
      rw [show ((0 : Nat) : Int) = 0 from rfl] at e0
      rw [if_pos (by omega), if_pos (by omega), e0]
      by_cases hz : (Page.nb s).getD 0 0 = 0
      · rw [if_pos (by omega), if_pos (by omega)]
        obtain ⟨t, ht, hi⟩ := strings_Trim.left k (s.extract 1 s.size) (by rw [ByteArray.size_extract]; omega)
        refine ⟨t, ht, hi.trans ?_⟩
        rw [Page.nb_extract, List.take_of_length_le (by rw [List.length_drop, Page.nb_length]; exact Nat.le_refl _)]
        exact strings_Trim.allz_drop hz
      · rw [if_neg (by omega)]
        refine ⟨s, rfl, ?_⟩
        rw [strings_Trim.empty_iff]
        constructor
        · exact fun h => absurd h h0
        · intro h
          have hl := Page.nb_length s
          cases hn : Page.nb s with
          | nil => rw [hn] at hl; exact hl.symm
          | cons y l =>
            rw [hn] at hz h
            exact absurd (h y (by simp)) (by simpa using hz)
theorem strings_Trim.total (s : ByteArray) (hm : s.size < 100000) : ∃ t, strings_Trim.f s ⟨#[0]⟩ = some t ∧ (t.toList = [] ↔ ∀ x ∈ Page.nb s, x = 0) := by
  unfold strings_Trim.f
  rw [if_pos rfl]
  by_cases h0 : s = ByteArray.empty
  · rw [if_pos h0]
    subst h0
    exact ⟨_, rfl, fun _ x hx => (List.not_mem_nil hx).elim, fun _ => (strings_Trim.empty_iff _).2 rfl⟩
  · rw [if_neg h0]
    obtain ⟨t, ht, htl, hi⟩ := strings_Trim.right (s.size + 1) s (by omega) hm
    obtain ⟨u, hu, hui⟩ := strings_Trim.left (s.size + 1) t (by omega)
    refine ⟨u, ?_, hui.trans hi⟩
    unfold strings_trimRightByte.f strings_trimLeftByte.f
    rw [ht]
    exact hu


end Go.Proofs.YtealmnllljoolaaDoor.PChunkCutting
