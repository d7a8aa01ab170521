/- Functions that the law reaches, each as a Lean function with the proof that the Go code comes to its answers; laid by wip/hook.py, a program of this session, over the print of the kit. -/
import Derived.Test.YthkcnkhhaiapfaaDoorPPageAllx0
import Derived.Test.YthkcnkhhaiapfaaDoorPPageAllx2
import Derived.Test.YthkcnkhhaiapfaaDoorPPageAllx3
import Derived.Test.YthkcnkhhaiapfaaDoorPPageAllx6
import Derived.Test.YthkcnkhhaiapfaaDoorPPageAllx27
namespace Go.Proofs.YthkcnkhhaiapfaaDoor.PPageAll
open Go.RowKit Go.Proofs.YthkcnkhhaiapfaaDoorW.PrintWords Go.Proofs.YthkcnkhhaiapfaaDoorW.PrintLast Go.Proofs.YthkcnkhhaiapfaaDoorW.PrintMore
attribute [local go_sem] max2_int min2_int max_two min_two max_three min_three max_four min_four   -- for this text's walks alone
set_option linter.unusedVariables false
set_option linter.unusedSimpArgs false

/-! ### page_Open: function 22 -/
theorem page_get.num (s : ByteArray) (h : 4 ≤ s.size) : page_get.f s = some ((Page.num4 (Page.nb s) : Nat) : Int) := by
  have hb := Page.nb_by s
  unfold page_get.f
  rw [if_pos (by omega), if_pos (by omega), if_pos (by omega), if_pos (by omega)]
  have e0 := Page.bt_nb s 0
  have e1 := Page.bt_nb s 1
  have e2 := Page.bt_nb s 2
  have e3 := Page.bt_nb s 3
  rw [show ((0 : Nat) : Int) = 0 from rfl] at e0
  rw [show ((1 : Nat) : Int) = 1 from rfl] at e1
  rw [show ((2 : Nat) : Int) = 2 from rfl] at e2
  rw [show ((3 : Nat) : Int) = 3 from rfl] at e3
  rw [e0, e1, e2, e3, Page.or4 _ _ _ _ (hb.get 0) (hb.get 1) (hb.get 2) (hb.get 3)]
  rfl
theorem page_Open.cut_small (s : ByteArray) (hs : s.size = 512) (i : Nat) : (s.extract i 508).size < 1000 := by
  rw [ByteArray.size_extract]
  omega
def page_Open.f (a0 : Int) (a1 : ByteArray) : Option (Int × ByteArray × Int) := Page.opened a0 a1
theorem page_Open.sum (w : World) (s : ByteArray) (hs : s.size = 512) (c : Nat) (hv : Crc.upd 0 ((Page.nb s).take 508) = c) (hG : Glob w) :
    Calls Tryd.prog 16 #[.slice (some ⟨w.heap.size, 0, none⟩) 508 (grownCap w.drew 508 0 5)] (Lib.bytesWorld w.drew 5 (s.extract 0 508)) fun e w' => e = .returned (.int .u32 (c : Int)) ∧ ∃ n, w' = (Lib.bytesWorld w.drew 5 (s.extract 0 508)).drewN n := by
  have hsz : (s.extract 0 508).size = 508 := by rw [ByteArray.size_extract]; omega
  have hl : (Crc.ints (Page.nb (s.extract 0 508))).length = 508 := by rw [Crc.ints_length, Page.nb_length, hsz]
  have hr0 := Page.conv_reads w.drew (s.extract 0 508) (by omega)
  have hr : Kd.C (Kd.int .u8) (Lib.bytesWorld w.drew 5 (s.extract 0 508)) (some ⟨w.heap.size, 0, none⟩) (Crc.ints (Page.nb (s.extract 0 508))).length (Crc.ints (Page.nb (s.extract 0 508))) := by
    rw [hl]
    rw [hsz] at hr0
    exact Kd.C_of_reads (enc := Value.int .u8) (d := (0 : Int)) (h1 := fun _ => rfl) hr0
  have hG1 : Glob w.drew := hG
  have hG2 : Glob (Lib.bytesWorld w.drew 5 (s.extract 0 508)) := hG1.below (Page.conv_below w.drew _)
  have h := castagnoli_Sum.calls (some ⟨w.heap.size, 0, none⟩) (grownCap w.drew 508 0 5) (Crc.ints (Page.nb (s.extract 0 508))) ((Crc.upd 0 (Page.nb (s.extract 0 508)) : Nat) : Int) _ hr (by rw [hl]; exact grownCap_ge w.drew 508 0 5) (Crc.upd_if (s := 0) (by decide) (Page.nb_by _)) hG2
  rw [hl, Page.nb_extract, List.drop_zero, Nat.sub_zero, hv] at h
  exact h.mono fun e w' ⟨he, hd⟩ => ⟨he, hd.out⟩
theorem page_Open.conv_low (w : World) (t : ByteArray) (n : Nat) : Below w.heap.size w ((Lib.bytesWorld w.drew 5 t).drewN n) := by
  have h1 : Below w.heap.size w w.drew := ⟨rfl, rfl, rfl, Nat.le_refl _, fun _ _ => rfl⟩
  have h2 : Below w.heap.size w.drew (Lib.bytesWorld w.drew 5 t) := Page.conv_below w.drew t
  exact pw_below_drewN (h1.trans h2) n
def page_Open.off (a0 : Int) (q x4 x5 n : Nat) (T : ByteArray) : Prop :=
  a0 < 0 ∨ 2147483648 ≤ a0 ∨ (q : Int) ≠ a0 ∨ x4 = 0 ∨ x5 ≠ 0 ∨ 500 < n ∨ ¬ T.toList = []
set_option maxHeartbeats 4000000 in
set_option maxRecDepth 100000 in
theorem page_Open.walk (a0 : Int) (s : ByteArray) (c g q x4 x5 x6 x7 n : Nat) (T : ByteArray) (r1 : Int) (r2 : ByteArray) (r3 : Int) (w : World)
    (hs : s.size = 512) (k0 : (s.size : Int) = 512) (HS : Aside0 (s.size = 512)) (HC : Aside0 (Crc.upd 0 ((Page.nb s).take 508) = c)) (HGET : Aside0 (page_get.f (s.extract 508 512) = some (g : Int)))
    (HGQ : Aside0 (page_get.f s = some (q : Int))) (HQ : Aside0 (q < 4294967296)) (HL : Aside0 (n < 65536)) (HT : Aside0 (strings_Trim.f (s.extract (8 + n) 508) ⟨#[0]⟩ = some T))
    (hx4 : ∀ h : 4 < s.size, ((s[4]'h).toNat : Int) = (x4 : Int)) (hx5 : ∀ h : 5 < s.size, ((s[5]'h).toNat : Int) = (x5 : Int))
    (hx6 : ∀ h : 6 < s.size, ((s[6]'h).toNat : Int) = (x6 : Int)) (hx7 : ∀ h : 7 < s.size, ((s[7]'h).toNat : Int) = (x7 : Int))
    (w4 : wrap64 (x4 : Int) = (x4 : Int))
    (fo : Go.bits .or .i64 (wrap64 (x6 : Int)) (wrap64 (wrap64 (x7 : Int) * 256)) = (n : Int))
    (HNE : Aside0 (c ≠ g → r1 = 0 ∧ r2 = ⟨#[]⟩ ∧ r3 = 6))
    (HOFF : Aside0 (c = g → page_Open.off a0 q x4 x5 n T → r1 = 0 ∧ r2 = ⟨#[]⟩ ∧ r3 = 5))
    (HOK : Aside0 (c = g → ¬ page_Open.off a0 q x4 x5 n T → r1 = (x4 : Int) ∧ r2 = s.extract 8 (8 + n) ∧ r3 = 0)) (HG : Aside0 (Glob w)) :
    Calls Tryd.prog 22 #[.int .i64 a0, .string s] w fun e w' => e = .returned (.tuple #[.int .i64 r1, .string r2, .int .i64 r3]) ∧ Below w.heap.size w w' := by
  have kc := fun (w : World) (t : ByteArray) => Lib.run_convert_string_bytes (P := Tryd.prog) w 9 23 5 t Tryd.underlying9 Tryd.underlying23 Tryd.underlying5
  obtain ⟨b, hb⟩ : ∃ b : Bool, ((c : Int) != (g : Int)) = b := ⟨_, rfl⟩
  have hb2 : ((c : Int) == (g : Int)) = !b := by rw [← hb]; simp [bne]
  go_enter Tryd.func22, Tryd.ntmps22
  go_upto_region 3 with fail
  go_cut [12] (fun s12 wx => s12 = .bool b ∧ Aside0 (Below w.heap.size w wx))
  case first =>
    go_region_with (first
      | (go_at_call 16; refine (page_Open.sum w s HS.out c HC.out HG.out).mono ?_; rintro e w5 ⟨rfl, n5, rfl⟩)
      | (go_at_call 38; refine (page_get.calls _ _ _ HGET.out).mono ?_; rintro e w6 ⟨rfl, ⟨n6, rfl⟩⟩))
    all_goals (go_wp2_with fail; go_meet; exact ⟨rfl, ⟨by first | exact page_Open.conv_low _ _ _ | exact pw_below_drewN (page_Open.conv_low _ _ _) _⟩⟩)
  case rest =>
    obtain ⟨rfl, HB⟩ := hcut
    cases b with
    | true =>
      have hne : c ≠ g := by
        rintro rfl
        simp at hb
      obtain ⟨rfl, rfl, rfl⟩ := HNE.out hne
      clear hne
      go_wp2
      go_ret3
      exact ⟨rfl, by first | exact HB.out | exact pw_below_drewN HB.out _⟩
    | false =>
      have heq : c = g := by
        simp at hb
        exact Int.ofNat.inj hb
      have HEQ := Aside0.mk heq
      clear heq hb hb2
      go_upto_region 6 with (go_quiet (fail))
      clear fo
      have HN := HL.out
      by_cases c0 : a0 < 0 ∨ 2147483648 ≤ a0
      · obtain ⟨rfl, rfl, rfl⟩ := HOFF.out HEQ.out (by unfold page_Open.off; omega)
        have his : page_is.f a0 = some false := by
          unfold page_is.f
          by_cases h0 : a0 ≥ 0
          · rw [if_pos h0]; simp; omega
          · rw [if_neg h0]
        have HIS := Aside0.mk his
        clear his c0 HN
        go_wp2_with (first
          | (go_at_call 36; refine (page_is.calls _ _ _ HIS.out).mono ?_; rintro e w7 ⟨rfl, ⟨n7, rfl⟩⟩))
        go_ret3
        exact ⟨rfl, by repeat (first | exact HB.out | apply pw_below_drewN)⟩
      have his : page_is.f a0 = some true := by unfold page_is.f; rw [if_pos (by omega)]; simp; omega
      have HIS := Aside0.mk his
      clear his
      have HA0 := Aside0.mk c0
      have wq : wrap64 (q : Int) = (q : Int) := by have := HQ.out; unfold wrap64; omega
      by_cases c1 : (q : Int) ≠ a0
      · obtain ⟨rfl, rfl, rfl⟩ := HOFF.out HEQ.out (Or.inr (Or.inr (Or.inl c1)))
        clear c0 HN
        go_wp2_with (first
          | (go_at_call 36; refine (page_is.calls _ _ _ HIS.out).mono ?_; rintro e w7 ⟨rfl, ⟨n7, rfl⟩⟩)
          | (go_at_call 38; refine (page_get.calls _ _ _ HGQ.out).mono ?_; rintro e w8 ⟨rfl, ⟨n8, rfl⟩⟩))
        go_ret3
        exact ⟨rfl, by repeat (first | exact HB.out | apply pw_below_drewN)⟩
      obtain rfl : (q : Int) = a0 := by simpa using c1
      clear c1 c0
      by_cases c2 : x4 = 0
      · obtain ⟨rfl, rfl, rfl⟩ := HOFF.out HEQ.out (Or.inr (Or.inr (Or.inr (Or.inl c2))))
        have k2 : ((x4 : Int) == 0) = true := by simpa using c2
        clear c2 HN
        go_wp2_with (first
          | (go_at_call 36; refine (page_is.calls _ _ _ HIS.out).mono ?_; rintro e w7 ⟨rfl, ⟨n7, rfl⟩⟩)
          | (go_at_call 38; refine (page_get.calls _ _ _ HGQ.out).mono ?_; rintro e w8 ⟨rfl, ⟨n8, rfl⟩⟩))
        go_ret3
        exact ⟨rfl, by repeat (first | exact HB.out | apply pw_below_drewN)⟩
      have k2 : ((x4 : Int) == 0) = false := by simpa using c2
      have C2 := Aside0.mk c2
      clear c2
      by_cases c3 : x5 ≠ 0
      · obtain ⟨rfl, rfl, rfl⟩ := HOFF.out HEQ.out (Or.inr (Or.inr (Or.inr (Or.inr (Or.inl c3)))))
        have c3' : ¬ x5 = 0 := c3
        clear c3 HN
        go_wp2_with (first
          | (go_at_call 36; refine (page_is.calls _ _ _ HIS.out).mono ?_; rintro e w7 ⟨rfl, ⟨n7, rfl⟩⟩)
          | (go_at_call 38; refine (page_get.calls _ _ _ HGQ.out).mono ?_; rintro e w8 ⟨rfl, ⟨n8, rfl⟩⟩))
        go_ret3
        exact ⟨rfl, by repeat (first | exact HB.out | apply pw_below_drewN)⟩
      obtain rfl : x5 = 0 := by simpa using c3
      clear c3
      by_cases c4 : 500 < n
      · obtain ⟨rfl, rfl, rfl⟩ := HOFF.out HEQ.out (Or.inr (Or.inr (Or.inr (Or.inr (Or.inr (Or.inl c4))))))
        have k4 : decide ((500 : Int) < (n : Int)) = true := decide_eq_true (by omega)
        clear c4 HN
        go_wp2_with (first
          | (go_at_call 36; refine (page_is.calls _ _ _ HIS.out).mono ?_; rintro e w7 ⟨rfl, ⟨n7, rfl⟩⟩)
          | (go_at_call 38; refine (page_get.calls _ _ _ HGQ.out).mono ?_; rintro e w8 ⟨rfl, ⟨n8, rfl⟩⟩))
        go_ret3
        exact ⟨rfl, by repeat (first | exact HB.out | apply pw_below_drewN)⟩
      have k4 : decide ((500 : Int) < (n : Int)) = false := decide_eq_false (by omega)
      have k5 : ∀ W : World, (Instr.slice 9 (.string s) (some (.int .i64 (8 + (n : Int)))) (some (.int .i64 508)) none).run Tryd.prog W = .ok (.string (s.extract (8 + n) 508)) W := fun W => by
        rw [run_slice_string W 9 s .i64 .i64 (8 + (n : Int)) 508 Tryd.underlying9 (by omega) (by omega) (by omega), show (8 + (n : Int)).toNat = 8 + n by omega]
        rfl
      have k7 : ∀ W : World, (Instr.slice 9 (.string s) (some (.int .i64 8)) (some (.int .i64 (8 + (n : Int)))) none).run Tryd.prog W = .ok (.string (s.extract 8 (8 + n))) W := fun W => by
        rw [run_slice_string W 9 s .i64 .i64 8 (8 + (n : Int)) Tryd.underlying9 (by omega) (by omega) (by omega), show (8 + (n : Int)).toNat = 8 + n by omega]
        rfl
      by_cases c5 : ¬ T.toList = []
      · obtain ⟨rfl, rfl, rfl⟩ := HOFF.out HEQ.out (Or.inr (Or.inr (Or.inr (Or.inr (Or.inr (Or.inr c5))))))
        have k6 : (T.toList == []) = false := beq_eq_false_iff_ne.2 c5
        clear c5 HN
        go_wp2_with (first
          | (go_at_call 36; refine (page_is.calls _ _ _ HIS.out).mono ?_; rintro e w7 ⟨rfl, ⟨n7, rfl⟩⟩)
          | (go_at_call 38; refine (page_get.calls _ _ _ HGQ.out).mono ?_; rintro e w8 ⟨rfl, ⟨n8, rfl⟩⟩)
          | (go_at_call 39; refine (strings_Trim.calls _ _ _ _ HT.out).mono ?_; rintro e w9 ⟨rfl, ⟨n9, rfl⟩⟩))
        go_ret3
        exact ⟨rfl, by repeat (first | exact HB.out | apply pw_below_drewN)⟩
      obtain ⟨hr1, rfl, rfl⟩ := HOK.out HEQ.out (by
        have := HA0.out
        have := C2.out
        unfold page_Open.off
        rintro (h | h | h | h | h | h | h)
        all_goals first | omega | exact c5 h)
      rw [← w4] at hr1
      subst hr1
      clear w4
      have c5 : T.toList = [] := Classical.not_not.1 c5
      have k6 : (T.toList == []) = true := beq_iff_eq.2 c5
      clear c5
      go_wp2_with (first
        | (go_at_call 36; refine (page_is.calls _ _ _ HIS.out).mono ?_; rintro e w7 ⟨rfl, ⟨n7, rfl⟩⟩)
        | (go_at_call 38; refine (page_get.calls _ _ _ HGQ.out).mono ?_; rintro e w8 ⟨rfl, ⟨n8, rfl⟩⟩)
        | (go_at_call 39; refine (strings_Trim.calls _ _ _ _ HT.out).mono ?_; rintro e w9 ⟨rfl, ⟨n9, rfl⟩⟩))
      go_quiet (fail)
      go_wp2
      go_ret3
      exact ⟨rfl, by repeat (first | exact HB.out | apply pw_below_drewN)⟩
theorem page_Open.len_or (l : List Nat) (hb : Crc.By l) : Go.bits .or .i64 (wrap64 ((l.getD 6 0 : Nat) : Int)) (wrap64 (wrap64 ((l.getD 7 0 : Nat) : Int) * 256)) = ((Page.olen l : Nat) : Int) := by
  have l6 := hb.get 6
  have l7 := hb.get 7
  unfold Page.olen
  generalize l.getD 6 0 = a, l.getD 7 0 = b at *
  rw [show wrap64 (a : Int) = (a : Int) by unfold wrap64; omega, show wrap64 (wrap64 (b : Int) * 256) = (b : Int) * 256 by unfold wrap64; omega]
  exact Page.i64_or l6 l7
theorem page_Open.len_lt (l : List Nat) (hb : Crc.By l) : Page.olen l < 65536 := by
  have l6 := hb.get 6
  have l7 := hb.get 7
  unfold Page.olen
  omega
theorem page_Open.w4 (l : List Nat) (hb : Crc.By l) : wrap64 ((l.getD 4 0 : Nat) : Int) = ((l.getD 4 0 : Nat) : Int) := by
  have l4 := hb.get 4
  generalize l.getD 4 0 = a at *
  unfold wrap64
  omega
theorem page_Open.at_ (s : ByteArray) (i : Nat) (h : i < s.size) : ((s[i]'h).toNat : Int) = (((Page.nb s).getD i 0 : Nat) : Int) := by
  rw [← Page.bt_nb]
  exact bt_at s i h
theorem page_Open.off_bad (a0 : Int) (s : ByteArray) (T : ByteArray) (hT : T.toList = [] ↔ ∀ x ∈ Page.nb (s.extract (8 + Page.olen (Page.nb s)) 508), x = 0) :
    page_Open.off a0 (Page.num4 (Page.nb s)) ((Page.nb s).getD 4 0) ((Page.nb s).getD 5 0) (Page.olen (Page.nb s)) T ↔ Page.obad a0 (Page.nb s) := by
  unfold page_Open.off Page.obad
  rw [hT, Page.nb_extract, List.drop_take]
theorem page_Open.calls (a0 : Int) (a1 : ByteArray) (r1 : Int) (r2 : ByteArray) (r3 : Int) (w : World) (h : page_Open.f a0 a1 = some (r1, r2, r3)) (hG : Glob w) :
    Calls Tryd.prog 22 #[.int .i64 a0, .string a1] w fun e w' => e = .returned (.tuple #[.int .i64 r1, .string r2, .int .i64 r3]) ∧ Below w.heap.size w w' := by
  unfold page_Open.f Page.opened at h
  by_cases hs : a1.size ≠ 512
  · rw [if_pos hs] at h
    simp only [Option.some.injEq, Prod.mk.injEq] at h
    obtain ⟨rfl, rfl, rfl⟩ := h
    have k1 : ((a1.size : Int) == 512) = false := by simpa using (by omega : ¬ (a1.size : Int) = 512)
    have k2 : ¬ a1.size = 512 := hs
    clear hs hG
    go_enter Tryd.func22, Tryd.ntmps22
    go_wp2
    go_ret3
    exact ⟨rfl, by repeat (first | exact Below.refl _ _ | apply pw_below_drewN)⟩
  · rw [if_neg hs] at h
    have hs : a1.size = 512 := Classical.not_not.1 hs
    obtain ⟨T, hT, hT0⟩ := strings_Trim.total (a1.extract (8 + Page.olen (Page.nb a1)) 508) (page_Open.cut_small a1 hs _)
    have ho := page_Open.off_bad a0 a1 T hT0
    have hb := Page.nb_by a1
    refine page_Open.walk a0 a1 (Crc.upd 0 ((Page.nb a1).take 508)) (Page.num4 ((Page.nb a1).drop 508)) (Page.num4 (Page.nb a1)) ((Page.nb a1).getD 4 0) ((Page.nb a1).getD 5 0) ((Page.nb a1).getD 6 0) ((Page.nb a1).getD 7 0)
      (Page.olen (Page.nb a1)) T r1 r2 r3 w hs (by rw [hs]; rfl) ⟨hs⟩ ⟨rfl⟩ ⟨?_⟩ ⟨?_⟩ ⟨Page.num4_lt hb⟩ ⟨page_Open.len_lt _ hb⟩ ⟨hT⟩ (page_Open.at_ a1 4) (page_Open.at_ a1 5) (page_Open.at_ a1 6) (page_Open.at_ a1 7)
      (page_Open.w4 _ hb) (page_Open.len_or _ hb) ⟨fun hc => ?_⟩ ⟨fun hc hx => ?_⟩ ⟨fun hc hx => ?_⟩ ⟨hG⟩
    · rw [page_get.num _ (by rw [ByteArray.size_extract, hs]; decide), Page.nb_extract, List.take_of_length_le (by rw [List.length_drop, Page.nb_length, hs]; decide)]
    · exact page_get.num _ (by rw [hs]; decide)
    · rw [if_pos hc] at h
      simp only [Option.some.injEq, Prod.mk.injEq] at h
      exact ⟨h.1.symm, h.2.1.symm, h.2.2.symm⟩
    · rw [if_neg (not_not_intro hc), if_pos (ho.1 hx)] at h
      simp only [Option.some.injEq, Prod.mk.injEq] at h
      exact ⟨h.1.symm, h.2.1.symm, h.2.2.symm⟩
    · rw [if_neg (not_not_intro hc), if_neg (fun hx' => hx (ho.2 hx'))] at h
      simp only [Option.some.injEq, Prod.mk.injEq] at h
      exact ⟨h.1.symm, h.2.1.symm, h.2.2.symm⟩


end Go.Proofs.YthkcnkhhaiapfaaDoor.PPageAll
