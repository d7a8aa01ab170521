/- Functions that the law reaches, each as a Lean function with the proof that the Go code comes to its answers; laid by wip/hook.py, a program of this session, over the print of the kit. -/
import Derived.Test.YthkcnkhhaiapfaaDoorPPageAllx0
import Derived.Test.YthkcnkhhaiapfaaDoorPPageAllx40
import Derived.Test.YthkcnkhhaiapfaaDoorPPageAllx41
namespace Go.Proofs.YthkcnkhhaiapfaaDoor.PPageAll
open Go.RowKit Go.Proofs.YthkcnkhhaiapfaaDoorW.PrintWords Go.Proofs.YthkcnkhhaiapfaaDoorW.PrintLast Go.Proofs.YthkcnkhhaiapfaaDoorW.PrintMore
attribute [local go_sem] max2_int min2_int max_two min_two max_three min_three max_four min_four   -- for this text's walks alone
set_option linter.unusedVariables false
set_option linter.unusedSimpArgs false

/-! ### aquiferref09_Open: function 34 -/
def aquiferref09_Open.f (a0 : Int) (a1 : ByteArray) : Option (Int × ByteArray × Int) := Page.opened a0 a1
theorem aquiferref09_Open.sum (w : World) (s : ByteArray) (hs : s.size = 512) (c : Nat) (hv : Crc.upd 0 ((Page.nb s).take 508) = c) :
    Calls Tryd.prog 17 #[.slice (some ⟨w.heap.size, 0, none⟩) 508 (grownCap w.drew 508 0 5)] (Lib.bytesWorld w.drew 5 (s.extract 0 508)) fun e w' => e = .returned (.int .u32 (c : Int)) ∧ ∃ n, w' = (Lib.bytesWorld w.drew 5 (s.extract 0 508)).drewN n := by
  have hsz : (s.extract 0 508).size = 508 := by rw [ByteArray.size_extract]; omega
  have h := aquiferref09_Seal.sum w.drew (s.extract 0 508) (by omega) c (by rw [Page.nb_extract, List.drop_zero, Nat.sub_zero]; exact hv)
  rw [hsz] at h
  exact h
theorem aquiferref09_Open.conv_low (w : World) (t : ByteArray) (n : Nat) : Below w.heap.size w ((Lib.bytesWorld w.drew 5 t).drewN n) := by
  have h1 : Below w.heap.size w w.drew := ⟨rfl, rfl, rfl, Nat.le_refl _, fun _ _ => rfl⟩
  have h2 : Below w.heap.size w.drew (Lib.bytesWorld w.drew 5 t) := Page.conv_below w.drew t
  exact pw_below_drewN (h1.trans h2) n
set_option maxHeartbeats 4000000 in
set_option maxRecDepth 100000 in
theorem aquiferref09_Open.walk (a0 : Int) (s : ByteArray) (c x4 x6 x7 n : Nat) (p t : ByteArray) (r1 : Int) (r2 : ByteArray) (r3 e0 : Int) (b : Bool) (w : World)
    (hs : s.size = 512) (k0 : (s.size : Int) = 512) (HS : Aside0 (s.size = 512)) (HC : Aside0 (Crc.upd 0 ((Page.nb s).take 508) = c)) (HP : Aside0 (aquiferref09_put.f 5 (c : Int) 4 = some p))
    (wc : IntKind.i64.wrap (c : Int) = (c : Int)) (hb : (p.toList == (s.extract 508 512).toList) = !b)
    (hx4 : ∀ h : 4 < s.size, ((s[4]'h).toNat : Int) = (x4 : Int))
    (hx6 : ∀ h : 6 < s.size, ((s[6]'h).toNat : Int) = (x6 : Int)) (hx7 : ∀ h : 7 < s.size, ((s[7]'h).toNat : Int) = (x7 : Int))
    (w4 : wrap64 (x4 : Int) = (x4 : Int)) (HN : Aside0 (n < 65536))
    (fo : wrap64 (wrap64 (x6 : Int) + wrap64 (256 * wrap64 (x7 : Int))) = (n : Int))
    (HT : Aside0 (n ≤ 500 → aquiferref09_Seal.f a0 (x4 : Int) (s.extract 8 (8 + n)) = some (t, e0)))
    (HNE : Aside0 (b = true → r1 = 0 ∧ r2 = ⟨#[]⟩ ∧ r3 = 6))
    (HLONG : Aside0 (b = false → 500 < n → r1 = 0 ∧ r2 = ⟨#[]⟩ ∧ r3 = 5))
    (HOFF : Aside0 (b = false → n ≤ 500 → (e0 ≠ 0 ∨ (t.toList == s.toList) = false) → r1 = 0 ∧ r2 = ⟨#[]⟩ ∧ r3 = 5))
    (HOK : Aside0 (b = false → n ≤ 500 → e0 = 0 → (t.toList == s.toList) = true → r1 = (x4 : Int) ∧ r2 = s.extract 8 (8 + n) ∧ r3 = 0)) :
    Calls Tryd.prog 34 #[.int .i64 a0, .string s] w fun e w' => e = .returned (.tuple #[.int .i64 r1, .string r2, .int .i64 r3]) ∧ Below w.heap.size w w' := by
  have kc := fun (w : World) (t : ByteArray) => Lib.run_convert_string_bytes (P := Tryd.prog) w 9 23 5 t Tryd.underlying9 Tryd.underlying23 Tryd.underlying5
  go_enter Tryd.func34, Tryd.ntmps34
  go_upto_region 3 with fail
  go_cut [23] (fun s23 wx => s23 = .bool b ∧ Aside0 (Below w.heap.size w wx))
  case first =>
    go_region_with (first
      | (go_at_call 17; with_reducible refine (aquiferref09_Open.sum w s HS.out c HC.out).mono ?_; rintro e w5 ⟨rfl, n5, rfl⟩)
      | (go_at_call 42; with_reducible refine (aquiferref09_put.calls _ _ _ _ _ HP.out).mono ?_; rintro e w6 ⟨rfl, hb6⟩))
    all_goals (go_wp2_with fail; go_meet; exact ⟨rfl, ⟨by first | exact below_then (aquiferref09_Open.conv_low _ _ _) (aquiferref09_Open.conv_low _ _ _).size hb6 | exact pw_below_drewN (below_then (aquiferref09_Open.conv_low _ _ _) (aquiferref09_Open.conv_low _ _ _).size hb6) _⟩⟩)
  case rest =>
    obtain ⟨rfl, HB⟩ := hcut
    cases b with
    | true =>
      obtain ⟨rfl, rfl, rfl⟩ := HNE.out rfl
      go_wp2
      go_ret3
      exact ⟨rfl, by repeat (first | exact HB.out | apply pw_below_drewN)⟩
    | false =>
      clear hb
      go_upto_region 6 with (go_quiet (fail))
      by_cases hn : 500 < n
      · obtain ⟨rfl, rfl, rfl⟩ := HLONG.out rfl hn
        have k4 : decide ((500 : Int) < (n : Int)) = true := decide_eq_true (by omega)
        clear hn
        go_wp2
        go_ret3
        exact ⟨rfl, by repeat (first | exact HB.out | apply pw_below_drewN)⟩
      have k4 : decide ((500 : Int) < (n : Int)) = false := decide_eq_false (by omega)
      have k7 : ∀ W : World, (Instr.slice 9 (.string s) (some (.int .i64 8)) (some (.int .i64 (8 + (n : Int)))) none).run Tryd.prog W = .ok (.string (s.extract 8 (8 + n))) W := fun W => by
        rw [run_slice_string W 9 s .i64 .i64 8 (8 + (n : Int)) Tryd.underlying9 (by omega) (by omega) (by omega), show (8 + (n : Int)).toNat = 8 + n by omega]
        rfl
      have ht := HT.out (by omega)
      have HTT := Aside0.mk ht
      have HOFF1 := Aside0.mk (HOFF.out rfl (by omega))
      have HOK1 := Aside0.mk (HOK.out rfl (by omega))
      have HN5 := Aside0.mk hn
      clear ht
      by_cases he : e0 = 0
      · subst he
        by_cases hts : (t.toList == s.toList) = true
        · obtain ⟨hr1, rfl, rfl⟩ := HOK1.out rfl hts
          subst hr1
          go_wp2_with (first
            | (go_at_call 33; with_reducible refine (aquiferref09_Seal.calls _ _ _ _ _ _ HTT.out).mono ?_; rintro e w7 ⟨rfl, hb7⟩))
          go_ret3
          exact ⟨rfl, below_then (pw_below_drewN HB.out _) (pw_below_drewN HB.out _).size hb7⟩
        · have hts : (t.toList == s.toList) = false := by simpa using hts
          obtain ⟨rfl, rfl, rfl⟩ := HOFF1.out (Or.inr hts)
          go_wp2_with (first
            | (go_at_call 33; with_reducible refine (aquiferref09_Seal.calls _ _ _ _ _ _ HTT.out).mono ?_; rintro e w7 ⟨rfl, hb7⟩))
          go_ret3
          exact ⟨rfl, below_then (pw_below_drewN HB.out _) (pw_below_drewN HB.out _).size hb7⟩
      · obtain ⟨rfl, rfl, rfl⟩ := HOFF1.out (Or.inl he)
        go_wp2_with (first
            | (go_at_call 33; with_reducible refine (aquiferref09_Seal.calls _ _ _ _ _ _ HTT.out).mono ?_; rintro e w7 ⟨rfl, hb7⟩))
        go_ret3
        exact ⟨rfl, below_then (pw_below_drewN HB.out _) (pw_below_drewN HB.out _).size hb7⟩
theorem aquiferref09_Open.len_sum (l : List Nat) (hb : Crc.By l) : wrap64 (wrap64 ((l.getD 6 0 : Nat) : Int) + wrap64 (256 * wrap64 ((l.getD 7 0 : Nat) : Int))) = ((Page.olen l : Nat) : Int) := by
  have l6 := hb.get 6
  have l7 := hb.get 7
  unfold Page.olen
  generalize l.getD 6 0 = a, l.getD 7 0 = b at *
  unfold wrap64
  omega
theorem aquiferref09_Open.calls (a0 : Int) (a1 : ByteArray) (r1 : Int) (r2 : ByteArray) (r3 : Int) (w : World) (h : aquiferref09_Open.f a0 a1 = some (r1, r2, r3)) :
    Calls Tryd.prog 34 #[.int .i64 a0, .string a1] w fun e w' => e = .returned (.tuple #[.int .i64 r1, .string r2, .int .i64 r3]) ∧ Below w.heap.size w w' := by
  unfold aquiferref09_Open.f Page.opened at h
  by_cases hs : a1.size ≠ 512
  · rw [if_pos hs] at h
    simp only [Option.some.injEq, Prod.mk.injEq] at h
    obtain ⟨rfl, rfl, rfl⟩ := h
    have k2 : ¬ a1.size = 512 := hs
    clear hs
    go_enter Tryd.func34, Tryd.ntmps34
    go_wp2
    go_ret3
    exact ⟨rfl, by repeat (first | exact Below.refl _ _ | apply pw_below_drewN)⟩
  · rw [if_neg hs] at h
    have hs : a1.size = 512 := Classical.not_not.1 hs
    have hb := Page.nb_by a1
    have hl : (Page.nb a1).length = 512 := by rw [Page.nb_length, hs]
    have hd4 : ((Page.nb a1).drop 508).length = 4 := by rw [List.length_drop, hl]
    have hcl : Crc.upd 0 ((Page.nb a1).take 508) < 4294967296 := Crc.upd_lt' (by decide) (hb.take 508)
    have hdn : Page.nb (a1.extract 508 512) = (Page.nb a1).drop 508 := by rw [Page.nb_extract, List.take_of_length_le (by omega)]
    obtain ⟨b, hbb⟩ : ∃ b : Bool, ((Page.str (Page.le4 (Crc.upd 0 ((Page.nb a1).take 508)))).toList == (a1.extract 508 512).toList) = !b := ⟨!((Page.str (Page.le4 (Crc.upd 0 ((Page.nb a1).take 508)))).toList == (a1.extract 508 512).toList), by simp⟩
    have hbi : b = false ↔ Crc.upd 0 ((Page.nb a1).take 508) = Page.num4 ((Page.nb a1).drop 508) := by
      have e1 : b = false ↔ Page.str (Page.le4 (Crc.upd 0 ((Page.nb a1).take 508))) = a1.extract 508 512 := by
        have e2 : ((Page.str (Page.le4 (Crc.upd 0 ((Page.nb a1).take 508)))).toList == (a1.extract 508 512).toList) = true ↔ Page.str (Page.le4 (Crc.upd 0 ((Page.nb a1).take 508))) = a1.extract 508 512 := by
          rw [beq_iff_eq]
          exact Page.toList_inj
        rw [← e2, hbb]
        cases b <;> simp
      rw [e1, ← Page.le4_inj hcl (hb.drop 508) hd4, ← hdn]
      constructor
      · intro e
        rw [← e, Page.nb_str (Page.le4_by _)]
      · intro e
        rw [e, Page.str_nb]
    have hbt : b = true ↔ ¬ Crc.upd 0 ((Page.nb a1).take 508) = Page.num4 ((Page.nb a1).drop 508) := by
      rw [← hbi]
      cases b <;> simp
    have h4 : (Page.nb a1).getD 4 0 < 256 := hb.get 4
    have hbody : Page.nb (a1.extract 8 (8 + Page.olen (Page.nb a1))) = ((Page.nb a1).drop 8).take (Page.olen (Page.nb a1)) := by
      rw [Page.nb_extract, Nat.add_sub_cancel_left]
    have hbs : Page.olen (Page.nb a1) ≤ 500 → (a1.extract 8 (8 + Page.olen (Page.nb a1))).size = Page.olen (Page.nb a1) := fun hn => by
      rw [ByteArray.size_extract]
      omega
    obtain ⟨t, e0, hT, hTi⟩ : ∃ t e0, (Page.olen (Page.nb a1) ≤ 500 → aquiferref09_Seal.f a0 (((Page.nb a1).getD 4 0 : Nat) : Int) (a1.extract 8 (8 + Page.olen (Page.nb a1))) = some (t, e0)) ∧
        (Crc.upd 0 ((Page.nb a1).take 508) = Page.num4 ((Page.nb a1).drop 508) → Page.olen (Page.nb a1) ≤ 500 → ((e0 = 0 ∧ t = a1) ↔ ¬ Page.obad a0 (Page.nb a1))) := by
      unfold aquiferref09_Seal.f Page.obad
      by_cases h1 : a0 < 0 ∨ 2147483648 ≤ a0 ∨ (Page.nb a1).getD 4 0 = 0
      · refine ⟨_, _, fun hn => if_pos (by omega), fun _ _ => ?_⟩
        constructor
        · rintro ⟨h, _⟩
          exact absurd h (by decide)
        · intro h
          exact absurd (by omega) h
      · refine ⟨_, _, fun hn => by rw [if_neg (by omega), if_neg (by rw [hbs hn]; omega)], fun hc hn => ?_⟩
        obtain ⟨id, rfl⟩ := Int.eq_ofNat_of_zero_le (show 0 ≤ a0 by omega)
        have hsi := Page.sealed_iff (id := id) (l := Page.nb a1) (by omega) hb hl hn hc
        rw [hbody, Int.toNat_natCast, Int.toNat_natCast]
        have k1 : Page.str (Page.sealed id ((Page.nb a1).getD 4 0) (((Page.nb a1).drop 8).take (Page.olen (Page.nb a1)))) = a1 ↔ Page.sealed id ((Page.nb a1).getD 4 0) (((Page.nb a1).drop 8).take (Page.olen (Page.nb a1))) = Page.nb a1 := by
          constructor
          · intro e
            rw [← Page.nb_str (l := Page.sealed id _ _) (Page.sealed_by (by omega) ((hb.drop 8).take _)), e]
          · intro e
            rw [e, Page.str_nb]
        rw [k1, hsi]
        constructor
        · rintro ⟨_, e1, e2, e3⟩ (h | h | h | h | h | h | h)
          · omega
          · omega
          · omega
          · omega
          · omega
          · omega
          · exact h e3
        · intro h
          refine ⟨rfl, ?_, ?_, ?_⟩
          · by_cases hq : Page.num4 (Page.nb a1) = id
            · exact hq
            · exact absurd (Or.inr (Or.inr (Or.inl (by omega)))) h
          · by_cases hq : (Page.nb a1).getD 5 0 = 0
            · exact hq
            · exact absurd (Or.inr (Or.inr (Or.inr (Or.inr (Or.inl hq))))) h
          · by_cases hq : ∀ x ∈ ((Page.nb a1).take 508).drop (8 + Page.olen (Page.nb a1)), x = 0
            · exact hq
            · exact absurd (Or.inr (Or.inr (Or.inr (Or.inr (Or.inr (Or.inr hq)))))) h
    have hts : (t.toList == a1.toList) = true ↔ t = a1 := by
      rw [beq_iff_eq]
      exact Page.toList_inj
    refine aquiferref09_Open.walk a0 a1 (Crc.upd 0 ((Page.nb a1).take 508)) ((Page.nb a1).getD 4 0) ((Page.nb a1).getD 6 0) ((Page.nb a1).getD 7 0) (Page.olen (Page.nb a1)) _ t r1 r2 r3 e0 b w hs (by rw [hs]; rfl) ⟨hs⟩ ⟨rfl⟩ ⟨aquiferref09_put.four _ (by omega)⟩
      (by rw [IntKind.wrap_i64]; omega) hbb (fun h => by rw [← Page.bt_nb]; exact bt_at a1 4 h) (fun h => by rw [← Page.bt_nb]; exact bt_at a1 6 h) (fun h => by rw [← Page.bt_nb]; exact bt_at a1 7 h)
      (by unfold wrap64; omega) ⟨by have := hb.get 6; have := hb.get 7; unfold Page.olen; omega⟩ (aquiferref09_Open.len_sum _ hb) ⟨hT⟩ ⟨fun hx => ?_⟩ ⟨fun hx hn => ?_⟩ ⟨fun hx hn ho => ?_⟩ ⟨fun hx hn he ht => ?_⟩
    · rw [if_pos (hbt.1 hx)] at h
      simp only [Option.some.injEq, Prod.mk.injEq] at h
      exact ⟨h.1.symm, h.2.1.symm, h.2.2.symm⟩
    · rw [if_neg (not_not_intro (hbi.1 hx)), if_pos (show Page.obad a0 (Page.nb a1) from Or.inr (Or.inr (Or.inr (Or.inr (Or.inr (Or.inl hn))))))] at h
      simp only [Option.some.injEq, Prod.mk.injEq] at h
      exact ⟨h.1.symm, h.2.1.symm, h.2.2.symm⟩
    · have hob : Page.obad a0 (Page.nb a1) := by
        by_cases hob : Page.obad a0 (Page.nb a1)
        · exact hob
        · obtain ⟨e1, e2⟩ := (hTi (hbi.1 hx) hn).2 hob
          rcases ho with ho | ho
          · exact absurd e1 ho
          · rw [hts.2 e2] at ho
            cases ho
      rw [if_neg (not_not_intro (hbi.1 hx)), if_pos hob] at h
      simp only [Option.some.injEq, Prod.mk.injEq] at h
      exact ⟨h.1.symm, h.2.1.symm, h.2.2.symm⟩
    · rw [if_neg (not_not_intro (hbi.1 hx)), if_neg ((hTi (hbi.1 hx) hn).1 ⟨he, hts.1 ht⟩)] at h
      simp only [Option.some.injEq, Prod.mk.injEq] at h
      exact ⟨h.1.symm, h.2.1.symm, h.2.2.symm⟩


end Go.Proofs.YthkcnkhhaiapfaaDoor.PPageAll
