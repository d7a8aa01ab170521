/- PageTurned: the walk, by hand: bits of a page are turned in the call's own copy; then the page is opened. -/
import Derived.Test.YthkcnkhhaiapfaaDoorPageTurn
import Derived.Test.YthkcnkhhaiapfaaDoorPPageAllx5
namespace Go.Proofs.YthkcnkhhaiapfaaDoor.PPageAll
open Go Go.RowKit Go.Proofs.YthkcnkhhaiapfaaDoorW.PrintWords Go.Proofs.YthkcnkhhaiapfaaDoorW.PrintLast Go.Proofs.YthkcnkhhaiapfaaDoorW.PrintMore
attribute [local go_sem] max2_int min2_int max_two min_two max_three min_three max_four min_four
set_option linter.unusedVariables false
set_option linter.unusedSimpArgs false
/-- What one turned bit comes to, in the walk's own forms. -/
theorem aquiferlaw09_PageTurned.bit {S m : List Nat} {K B i q : Nat} (h : Page.Inv S m K B i) (hS : S.length = 512) (hq : K + i = q) (hin : q < 4096) (hi : i < 32) (hB : B < 4294967296) (hb : B / 2 ^ i % 2 = 1) :
    ∃ j l p y v x : Nat, j < 512 ∧ m.getD j 0 = y ∧ (B : Int) / 2 ^ min i 32 = (x : Int) ∧ Go.bits .and .u32 (x : Int) 1 = 1 ∧ wrap64 ((q : Int) / 8) = (j : Int) ∧ (q : Int) % 8 = (l : Int) ∧ IntKind.u64.wrap (l : Int) = (l : Int) ∧
      (2 : Int) ^ l % 256 = (p : Int) ∧ Go.bits .xor .u8 (y : Int) (p : Int) = (v : Int) ∧ Page.Inv S (m.set j v) K B (i + 1) ∧ B % 2 ^ (i + 1) ≠ 0 := by
  have hl8 : q % 8 < 8 := Nat.mod_lt _ (by decide)
  have hp2 : 2 ^ (q % 8) < 256 := Nat.pow_lt_pow_right (a := 2) (n := 8) (by decide) hl8
  have ht := h.turn (by rw [hS, hq]; exact hin) hb
  rw [hq] at ht
  refine ⟨q / 8, q % 8, 2 ^ (q % 8), _, _, B / 2 ^ i, by omega, rfl, ?_, ?_, ?_, ?_, Page.u64_nat (by omega), ?_, Go.u8_xor_nat _ _ (h.by_.get _) hp2, ht.1, ht.2⟩
  · rw [Nat.min_eq_left (show i ≤ 32 by omega), Int.natCast_ediv]
    simp
  · rw [Crc.walk_bit (Nat.lt_of_le_of_lt (Nat.div_le_self _ _) hB), hb]
    rfl
  · have hj : q / 8 < 512 := by omega
    rw [show (q : Int) / 8 = ((q / 8 : Nat) : Int) by omega]
    generalize q / 8 = j at *
    unfold wrap64
    omega
  · omega
  · have e : ((2 : Int) ^ (q % 8)) = ((2 ^ (q % 8) : Nat) : Int) := by simp
    rw [e]
    generalize 2 ^ (q % 8) = z at *
    omega
theorem aquiferlaw09_PageTurned.nobit {B i : Nat} (hi : i < 32) (hB : B < 4294967296) (hb : ¬ B / 2 ^ i % 2 = 1) : ∃ x : Nat, (B : Int) / 2 ^ min i 32 = (x : Int) ∧ Go.bits .and .u32 (x : Int) 1 = 0 := by
  refine ⟨B / 2 ^ i, ?_, ?_⟩
  · rw [Nat.min_eq_left (show i ≤ 32 by omega), Int.natCast_ediv]
    simp
  · rw [Crc.walk_bit (Nat.lt_of_le_of_lt (Nat.div_le_self _ _) hB), (Nat.mod_two_eq_zero_or_one (B / 2 ^ i)).resolve_right hb]
    rfl
theorem aquiferlaw09_PageTurned.sum {K i q : Nat} (hK : K < 4096) (hi : i ≤ 32) (hq : K + i = q) : wrap64 ((K : Int) + (i : Int)) = (q : Int) := by
  unfold wrap64
  omega
theorem aquiferlaw09_PageTurned.small {i : Nat} (h : i < 32) : i < 9223372036854775807 := by omega
theorem aquiferlaw09_PageTurned.meas0 {i : Nat} (h : i < 32) : (32 - intOf (Value.int IntKind.i64 ((i + 1 : Nat) : Int))).toNat < (32 - intOf (Value.int IntKind.i64 (i : Int))).toNat := by
  simp only [intOf]
  omega
theorem aquiferlaw09_PageTurned.meas {i : Nat} (h : i < 32) : (32 - intOf (Value.int IntKind.i64 (wrap64 ((i : Int) + 1)))).toNat < (32 - intOf (Value.int IntKind.i64 (i : Int))).toNat := by
  rw [Crc.wrap_succ (aquiferlaw09_PageTurned.small h)]
  exact aquiferlaw09_PageTurned.meas0 h
set_option maxHeartbeats 4000000 in
set_option maxRecDepth 100000 in
theorem aquiferlaw09_PageTurned.good (a0 : ByteArray) (m : Int) (a1 : Int) (B K : Nat) (t S : ByteArray) (w : World) (hm : (if 500 < (a0.size : Int) then 500 else (a0.size : Int)) = m) (hm2 : (if 500 < a0.size then 500 else (a0.size : Int)) = m) (k1 : ∀ W : World, (Instr.slice 9 (.string a0) none (some (.int .i64 m)) none).run Tryd.prog W = .ok (.string t) W)
    (HS : Aside0 (page_Seal.f 3 2 t = some (S, 0))) (hsz : S.size = 512) (HSZ : Aside0 (S.size = 512)) (hK : Int.tmod (wrap64 (Int.tmod a1 4096 + 4096)) 4096 = (K : Int)) (HK : Aside0 (K < 4096)) (HB : Aside0 (B < 4294967296)) (HW : Aside0 (aquiferlaw09_works.f = some true))
    (HO : Aside0 (∀ (b : List Nat) (i : Nat), Page.Inv (Page.nb S) b K B i → i ≤ 32 → (B % 2 ^ i = 0 → ∃ k x, page_Open.f 3 (Page.str b) = some (k, x, 0)) ∧ (B % 2 ^ i ≠ 0 → page_Open.f 3 (Page.str b) = some (0, ⟨#[]⟩, 6)))) (HG : Aside0 (Glob w)) :
    Calls Tryd.prog 14 #[.string a0, .int .i64 a1, .int .u32 (B : Int)] w fun e w' => e = .returned (.bool true) ∧ Below w.heap.size w w' := by
  have kc := fun (w : World) (t : ByteArray) => Lib.run_convert_string_bytes (P := Tryd.prog) w 9 23 5 t Tryd.underlying9 Tryd.underlying23 Tryd.underlying5
  go_enter Tryd.func14, Tryd.ntmps14
  go_wp2_with (first
    | (go_at_call 21; with_reducible refine (page_Seal.calls _ _ _ _ _ _ HS.out HG.out).mono ?_; rintro e w1 ⟨rfl, hb1⟩))
  have HB1 := Aside0.mk hb1
  clear hb1
  obtain ⟨sp, ha⟩ := Page.CArr.new w1 S
  have hb2 := below_then HB1.out HB1.out.size (Page.conv_below w1 S)
  have hG0 := HB1.out.size
  obtain ⟨G, hGe⟩ : ∃ G, w1.heap.size = G := ⟨_, rfl⟩
  obtain ⟨cap, hcap⟩ : ∃ cap, grownCap w1 512 0 5 = cap := ⟨_, rfl⟩
  have hcl : 512 ≤ cap := by rw [← hcap]; exact grownCap_ge w1 512 0 5
  rw [hGe] at ha hG0 ⊢
  rw [hcap]
  have HA0 := Aside0.mk ha
  have HB2 := Aside0.mk hb2
  have HG0 := Aside0.mk hG0
  have HCL := Aside0.mk hcl
  have hnl : (Page.nb S).length = 512 := by rw [Page.nb_length, hsz]
  have HNL := Aside0.mk hnl
  clear ha hb2 hG0 hGe hcap hnl hcl hK hm hm2 k1 kc
  go_loopw [12, 13] (fun v12 v13 wr => ∃ (c : Bool) (i : Nat) (m : List Nat), v12 = .bool c ∧ v13 = .int .i64 (i : Int) ∧ Aside0 (c = decide (B % 2 ^ i ≠ 0)) ∧ Aside0 (Page.Inv (Page.nb S) m K B i) ∧ Aside0 (i ≤ 32) ∧ Aside0 (Page.CArr wr G sp m) ∧ Aside0 (Below w.heap.size w wr)) (fun _ v13 _ => (32 - intOf v13).toNat)
  case atStart => exact ⟨false, 0, Page.nb S, rfl, rfl, ⟨by simp [Nat.mod_one]⟩, ⟨Page.Inv.start (Page.nb_by S) K B⟩, ⟨by decide⟩, HA0, HB2⟩
  case round =>
    obtain ⟨c, i, m, rfl, rfl, HC, HI, hi, HA, HW1⟩ := hrel
    clear HA0 HB2 HB1
    have HL : Aside0 (m.length = 512) := ⟨by rw [HI.out.len, HNL.out]⟩
    obtain ⟨q, hq⟩ : ∃ q, K + i = q := ⟨_, rfl⟩
    have hq2 := aquiferlaw09_PageTurned.sum HK.out hi.out hq
    have HQ := Aside0.mk hq
    clear hq
    by_cases h32 : i < 32
    · have d1 : decide ((i : Int) < 32) = true := decide_eq_true (Int.ofNat_lt.2 h32)
      have H32 := Aside0.mk h32
      clear h32
      by_cases hin : q < 4096
      · have d2 : decide ((q : Int) < 4096) = true := decide_eq_true (Int.ofNat_lt.2 hin)
        have u1 : IntKind.u64.wrap (i : Int) = (i : Int) := Page.u64_nat (by have := H32.out; omega)
        have HIN := Aside0.mk hin
        clear hin
        by_cases hbit : B / 2 ^ i % 2 = 1
        · obtain ⟨j, l, p, y, v, x, hj, hy, b0, b1, e1, e3, e4, e5, e6, ht, hne⟩ := aquiferlaw09_PageTurned.bit HI.out HNL.out HQ.out HIN.out H32.out HB.out hbit
          have f1 := HA.out.cell (i := j) (by rw [HL.out]; exact hj)
          have f2 := HA.out.frozen (i := j) (by rw [HL.out]; exact hj)
          rw [hy] at f1
          have HT := Aside0.mk (And.intro ht hne)
          have HA2 := Aside0.mk (HA.out.set_ (i := j) (by rw [HL.out]; exact hj) v)
          have HW2 := Aside0.mk (HW1.out.setCell (p := ⟨G, j, none⟩) HG0.out (.int .u8 (v : Int)))
          clear hbit ht hne hy
          go_wp2
          go_roundw
          case rel => exact ⟨true, i + 1, m.set j v, rfl, congrArg (Value.int .i64) (Crc.wrap_succ (aquiferlaw09_PageTurned.small H32.out)), ⟨by rw [decide_eq_true HT.out.2]⟩, ⟨HT.out.1⟩, ⟨H32.out⟩, HA2, HW2⟩
          case measure => exact aquiferlaw09_PageTurned.meas H32.out
        · obtain ⟨x, b0, b1⟩ := aquiferlaw09_PageTurned.nobit (i := i) H32.out HB.out hbit
          have hk := HI.out.keep hbit
          have HT := Aside0.mk hk
          clear hk hbit
          go_wp2
          go_roundw
          case rel => exact ⟨c, i + 1, m, rfl, congrArg (Value.int .i64) (Crc.wrap_succ (aquiferlaw09_PageTurned.small H32.out)), ⟨by rw [HT.out.2]; exact HC.out⟩, ⟨HT.out.1⟩, ⟨H32.out⟩, HA, HW1⟩
          case measure => exact aquiferlaw09_PageTurned.meas H32.out
      · have d2 : decide ((q : Int) < 4096) = false := decide_eq_false (fun h => hin (Int.ofNat_lt.1 h))
        clear hin
        have hinv := HI.out
        have hoo := HO.out m i hinv hi.out
        have HGr : Aside0 (Glob wr) := ⟨HG.out.below HW1.out⟩
        have kst : (convert 23 9 (.slice (some ⟨G, 0, none⟩) 512 cap)).run Tryd.prog wr = .ok (.string (Page.str m)) wr := by
          have hr := HA.out.reads (by rw [HL.out]; decide)
          rw [HL.out] at hr
          exact string_of_reads Tryd.underlying23 Tryd.underlying5 Tryd.underlying9 hr
        obtain ⟨P, hP⟩ : ∃ P, Page.str m = P := ⟨_, rfl⟩
        rw [hP] at kst hoo
        have HC1 := HC.out
        clear hinv hP
        cases c with
        | false =>
          obtain ⟨k, x, hop⟩ := hoo.1 (by simpa using HC1)
          have HOP := Aside0.mk hop
          clear hop hoo HC1
          go_wp2_with (first
            | (go_at_call 22; with_reducible refine (page_Open.calls _ _ _ _ _ _ HOP.out HGr.out).mono ?_; rintro e w7 ⟨rfl, hb7⟩; have HB7 := Aside0.mk hb7; have HG7 : Aside0 (Glob w7) := ⟨HGr.out.below hb7⟩; clear hb7)
            | (go_at_call 24; with_reducible refine (aquiferlaw09_works.calls _ _ HW.out HG7.out).mono ?_; rintro e w8 ⟨rfl, hb8⟩))
          go_ret
          exact ⟨rfl, by have := below_then HW1.out HW1.out.size HB7.out; exact below_then this this.size hb8⟩
        | true =>
          have hop := hoo.2 (by simpa using HC1)
          have HOP := Aside0.mk hop
          clear hop hoo HC1
          go_wp2_with (first
            | (go_at_call 22; with_reducible refine (page_Open.calls _ _ _ _ _ _ HOP.out HGr.out).mono ?_; rintro e w7 ⟨rfl, hb7⟩; have HB7 := Aside0.mk hb7; have HG7 : Aside0 (Glob w7) := ⟨HGr.out.below hb7⟩; clear hb7)
            | (go_at_call 24; with_reducible refine (aquiferlaw09_works.calls _ _ HW.out HG7.out).mono ?_; rintro e w8 ⟨rfl, hb8⟩))
          go_ret
          exact ⟨rfl, by have := below_then HW1.out HW1.out.size HB7.out; exact below_then this this.size hb8⟩
    · have d1 : decide ((i : Int) < 32) = false := decide_eq_false (fun h => h32 (Int.ofNat_lt.1 h))
      clear h32
      have hinv := HI.out
      have hoo := HO.out m i hinv hi.out
      have HGr : Aside0 (Glob wr) := ⟨HG.out.below HW1.out⟩
      have kst : (convert 23 9 (.slice (some ⟨G, 0, none⟩) 512 cap)).run Tryd.prog wr = .ok (.string (Page.str m)) wr := by
        have hr := HA.out.reads (by rw [HL.out]; decide)
        rw [HL.out] at hr
        exact string_of_reads Tryd.underlying23 Tryd.underlying5 Tryd.underlying9 hr
      obtain ⟨P, hP⟩ : ∃ P, Page.str m = P := ⟨_, rfl⟩
      rw [hP] at kst hoo
      have HC1 := HC.out
      clear hinv hP
      cases c with
      | false =>
        obtain ⟨k, x, hop⟩ := hoo.1 (by simpa using HC1)
        have HOP := Aside0.mk hop
        clear hop hoo HC1
        go_wp2_with (first
          | (go_at_call 22; with_reducible refine (page_Open.calls _ _ _ _ _ _ HOP.out HGr.out).mono ?_; rintro e w7 ⟨rfl, hb7⟩; have HB7 := Aside0.mk hb7; have HG7 : Aside0 (Glob w7) := ⟨HGr.out.below hb7⟩; clear hb7)
          | (go_at_call 24; with_reducible refine (aquiferlaw09_works.calls _ _ HW.out HG7.out).mono ?_; rintro e w8 ⟨rfl, hb8⟩))
        go_ret
        exact ⟨rfl, by have := below_then HW1.out HW1.out.size HB7.out; exact below_then this this.size hb8⟩
      | true =>
        have hop := hoo.2 (by simpa using HC1)
        have HOP := Aside0.mk hop
        clear hop hoo HC1
        go_wp2_with (first
          | (go_at_call 22; with_reducible refine (page_Open.calls _ _ _ _ _ _ HOP.out HGr.out).mono ?_; rintro e w7 ⟨rfl, hb7⟩; have HB7 := Aside0.mk hb7; have HG7 : Aside0 (Glob w7) := ⟨HGr.out.below hb7⟩; clear hb7)
          | (go_at_call 24; with_reducible refine (aquiferlaw09_works.calls _ _ HW.out HG7.out).mono ?_; rintro e w8 ⟨rfl, hb8⟩))
        go_ret
        exact ⟨rfl, by have := below_then HW1.out HW1.out.size HB7.out; exact below_then this this.size hb8⟩
theorem aquiferlaw09_PageTurned.place (a : Int) : ∃ n : Nat, Int.tmod (wrap64 (Int.tmod a 4096 + 4096)) 4096 = (n : Int) ∧ n < 4096 := by
  have h1 := Int.tmod_lt_of_pos a (show (0 : Int) < 4096 by decide)
  have h2 : -4096 < Int.tmod a 4096 := by
    rcases Int.le_total 0 a with h | h
    · have := Int.tmod_nonneg 4096 h
      omega
    · have := Int.tmod_nonneg 4096 (a := -a) (by omega)
      have e : Int.tmod (-a) 4096 = -Int.tmod a 4096 := Int.neg_tmod ..
      have := Int.tmod_lt_of_pos (-a) (show (0 : Int) < 4096 by decide)
      omega
  generalize Int.tmod a 4096 = y at *
  have e : wrap64 (y + 4096) = y + 4096 := by unfold wrap64; omega
  rw [e]
  have h3 := Int.tmod_nonneg 4096 (a := y + 4096) (by omega)
  have h4 := Int.tmod_lt_of_pos (y + 4096) (show (0 : Int) < 4096 by decide)
  exact ⟨(Int.tmod (y + 4096) 4096).toNat, by omega, by omega⟩
theorem aquiferlaw09_PageTurned.opens {t : ByteArray} (ht : t.size ≤ 500) {K B : Nat} (hK : K < 4096) (hB : B < 4294967296) (b : List Nat) (i : Nat) (h : Page.Inv (Page.nb (Page.str (Page.sealed 3 2 (Page.nb t)))) b K B i) :
    (B % 2 ^ i = 0 → ∃ k x, page_Open.f 3 (Page.str b) = some (k, x, 0)) ∧ (B % 2 ^ i ≠ 0 → page_Open.f 3 (Page.str b) = some (0, ⟨#[]⟩, 6)) := by
  have hs := Page.page_sum (id := 3) (kind := 2) (s := t) (by decide) ht
  have ho := Page.opened_own (id := 3) (kind := 2) (s := t) (by decide) (by decide) ht (by decide)
  have hz := Page.page_size (id := 3) (kind := 2) (s := t) ht
  generalize Page.str (Page.sealed 3 2 (Page.nb t)) = S at *
  constructor
  · intro h0
    rw [h.same h0, Page.str_nb]
    exact ⟨_, _, ho⟩
  · intro h0
    exact Page.opened_turned (a0 := 3) (Page.nb_by S) h.by_ (by rw [Page.nb_length, hz]) h.len h.val (Nat.lt_of_le_of_lt (Nat.mod_le _ _) hB) (Nat.le_of_lt hK) hs h0
theorem aquiferlaw09_PageTurned.walk (a0 : ByteArray) (a1 : Int) (a2 : Int) (w : World) (w0 : a0.size ≤ 140737488351232) (w2 : (Lit.int .u32 a2).wf = true) (hG : Glob w) :
    Calls Tryd.prog 14 #[.string a0, .int .i64 a1, .int .u32 a2] w fun e w' => e = .returned (.bool true) ∧ Below w.heap.size w w' := by
  obtain ⟨B, rfl, hB⟩ := Crc.word_of w2
  obtain ⟨K, hK, hKl⟩ := aquiferlaw09_PageTurned.place a1
  obtain ⟨m, hm⟩ : ∃ m : Nat, min a0.size 500 = m := ⟨_, rfl⟩
  have ht : (a0.extract 0 m).size ≤ 500 := by rw [ByteArray.size_extract]; omega
  have hsf := Page.seal_f (id := 3) (kind := 2) (s := a0.extract 0 m) (by decide) (by decide) (by decide) ht
  have hz := Page.page_size (id := 3) (kind := 2) (s := a0.extract 0 m) ht
  refine aquiferlaw09_PageTurned.good a0 (m : Int) a1 B K (a0.extract 0 m) _ w (by split <;> omega) (by split <;> omega) (fun W => ?_) ⟨hsf⟩ hz ⟨hz⟩ hK ⟨hKl⟩ ⟨hB⟩ ⟨Page.works_f⟩ ⟨fun b i h _ => aquiferlaw09_PageTurned.opens ht hKl hB b i h⟩ ⟨hG⟩
  rw [run_slice_string_h W 9 a0 Tryd.underlying9 .i64 (m : Int) (by omega) (by omega), Int.toNat_natCast]
end Go.Proofs.YthkcnkhhaiapfaaDoor.PPageAll
