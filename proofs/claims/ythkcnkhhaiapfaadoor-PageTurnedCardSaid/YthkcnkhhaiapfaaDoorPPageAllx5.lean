/- Functions that the law reaches, each as a Lean function with the proof that the Go code comes to its answers; laid by wip/hook.py, a program of this session, over the print of the kit. -/
import Derived.Test.YthkcnkhhaiapfaaDoorPPageAllx0
import Derived.Test.YthkcnkhhaiapfaaDoorPPageAllx2
import Derived.Test.YthkcnkhhaiapfaaDoorPPageAllx3
namespace Go.Proofs.YthkcnkhhaiapfaaDoor.PPageAll
open Go.RowKit Go.Proofs.YthkcnkhhaiapfaaDoorW.PrintWords Go.Proofs.YthkcnkhhaiapfaaDoorW.PrintLast Go.Proofs.YthkcnkhhaiapfaaDoorW.PrintMore
attribute [local go_sem] max2_int min2_int max_two min_two max_three min_three max_four min_four   -- for this text's walks alone
set_option linter.unusedVariables false
set_option linter.unusedSimpArgs false

/-! ### page_Seal: function 21 -/
def page_Seal.f (a0 : Int) (a1 : Int) (a2 : ByteArray) : Option (ByteArray × Int) :=
  if a0 < 0 ∨ 2147483648 ≤ a0 ∨ a1 < 1 ∨ 255 < a1 then some (⟨#[]⟩, 2) else if 500 < a2.size then some (⟨#[]⟩, 3)
  else some (Page.str (Page.sealed a0.toNat a1.toNat (Page.nb a2)), 0)
theorem page_Seal.info5 : (Tryd.prog.info? 5).map (fun i => i.size) = some 1 := by kernel_rfl
theorem page_Seal.sum (W : World) (g : Nat) (m : List Nat) (hA : Page.BArr W g m) (hm : m.length = 512) (hb : Crc.By (m.take 508)) (hG : Glob W) :
    Calls Tryd.prog 16 #[.slice (some ⟨g, 0, none⟩) 508 512] W fun e w' => e = .returned (.int .u32 ((Crc.upd 0 (m.take 508) : Nat) : Int)) ∧ Drawn0 W w' := by
  have hl : (Crc.ints (m.take 508)).length = 508 := by rw [Crc.ints_length, List.length_take]; omega
  have hr : Kd.C (Kd.int .u8) W (some ⟨g, 0, none⟩) (Crc.ints (m.take 508)).length (Crc.ints (m.take 508)) := by
    rw [hl]
    exact Kd.C_of_reads (enc := Value.int .u8) (d := (0 : Int)) (h1 := fun _ => rfl) (hA.reads 508 (by omega) (by omega))
  have h := castagnoli_Sum.calls (some ⟨g, 0, none⟩) 512 (Crc.ints (m.take 508)) ((Crc.upd 0 (m.take 508) : Nat) : Int) W hr (by rw [hl]; decide) (Crc.upd_if (s := 0) (by decide) hb) hG
  rw [hl] at h
  exact h
set_option maxHeartbeats 4000000 in
set_option maxRecDepth 100000 in
theorem page_Seal.good (id kind : Nat) (hid : id < 2147483648) (hk : 1 ≤ kind) (hk2 : kind ≤ 255) (s : ByteArray) (hs : s.size ≤ 500) (w : World) (hG : Glob w) :
    Calls Tryd.prog 21 #[.int .i64 id, .int .i64 kind, .string s] w fun e w' => e = .returned (.tuple #[.string (Page.str (Page.sealed id kind (Page.nb s))), .int .i64 0]) ∧ Below w.heap.size w w' := by
  have HG := Aside0.mk hG
  have hnl := Page.nb_length s
  have NL := Aside0.mk hnl
  have HS := Aside0.mk hs
  have HK := Aside0.mk hk2
  have his : page_is.f (id : Int) = some true := by unfold page_is.f; rw [if_pos (by omega)]; simp; omega
  have HIS := Aside0.mk his
  have k1 : decide ((kind : Int) < 1) = false := decide_eq_false (by omega)
  have k2 : decide ((255 : Int) < (kind : Int)) = false := decide_eq_false (by omega)
  have k3 : decide ((500 : Int) < (s.size : Int)) = false := decide_eq_false (by omega)
  have g1 : IntKind.u32.wrap (id : Int) = (id : Int) := by rw [IntKind.wrap_u32']; omega
  have g2 : IntKind.u8.wrap (kind : Int) = (kind : Int) := by rw [IntKind.wrap_u8]; omega
  have g3 : IntKind.u8.wrap (s.size : Int) = ((s.size % 256 : Nat) : Int) := by rw [IntKind.wrap_u8]; omega
  have g4 : IntKind.u8.wrap ((s.size : Int) / 256) = ((s.size / 256 % 256 : Nat) : Int) := by rw [IntKind.wrap_u8]; omega
  clear hG hnl hs hk2 his hid hk
  go_enter Tryd.func21, Tryd.ntmps21
  go_upto_region 6 with (go_at_call 36; refine (page_is.calls _ _ _ HIS.out).mono ?_; rintro e w1 ⟨rfl, hd1⟩)
  have hA := Page.BArr.new w1
  have hB : Below w.heap.size w (w1.alloc (.cells Tryd.zeroCells62 62)) := hd1.below.alloc hd1.below.size _
  have hsz : w.heap.size ≤ w1.heap.size := hd1.below.size
  clear hd1
  obtain ⟨G, hGe⟩ : ∃ G, w1.heap.size = G := ⟨_, rfl⟩
  rw [hGe] at hA hsz ⊢
  obtain ⟨W, hW⟩ : ∃ W, w1.alloc (.cells Tryd.zeroCells62 62) = W := ⟨_, rfl⟩
  rw [hW] at hA hB ⊢
  clear hW hGe
  have HA := Aside0.mk hA
  have HB := Aside0.mk hB
  have HZ := Aside0.mk hsz
  clear hA hB hsz
  go_upto_region 7 with (go_at_call 37; refine (Page.put_calls W G 0 512 512 _ HA.out (by simp) (by decide) id).mono ?_; rintro e w2 ⟨rfl, hA2, hB2⟩)
  have HB2 := Aside0.mk (Page.below_low HB.out HZ.out hB2)
  clear hB2 HB HA
  have hl2 : (Page.putl (List.replicate 512 0) 0 id).length = 512 := by rw [Page.putl_length, List.length_replicate]
  have c4 := hA2.cell (i := 4) (by omega)
  have c6 := hA2.cell (i := 6) (by omega)
  have c7 := hA2.cell (i := 7) (by omega)
  have f4 := hA2.frozen 4
  have f6 := hA2.frozen 6
  have f7 := hA2.frozen 7
  have HA2 := Aside0.mk hA2
  clear hA2 hl2
  go_upto_region 8 with fail
  have HA3 : Aside0 (Page.BArr (((w2.setCell ⟨G, 4, none⟩ (.int .u8 (kind : Int))).setCell ⟨G, 6, none⟩ (.int .u8 ((s.size : Int) % 256))).setCell ⟨G, 7, none⟩ (.int .u8 ((s.size : Int) / 256 % 256))) G (Page.m2 id kind s.size)) := ⟨((HA2.out.set_ 4 kind).set_ 6 (s.size % 256)).set_ 7 (s.size / 256 % 256)⟩
  have HB3 : Aside0 (Below w.heap.size w (((w2.setCell ⟨G, 4, none⟩ (.int .u8 (kind : Int))).setCell ⟨G, 6, none⟩ (.int .u8 ((s.size : Int) % 256))).setCell ⟨G, 7, none⟩ (.int .u8 ((s.size : Int) / 256 % 256)))) := ⟨((HB2.out.setCell HZ.out _).setCell HZ.out _).setCell HZ.out _⟩
  obtain ⟨w3, hw3⟩ : ∃ W, ((w2.setCell ⟨G, 4, none⟩ (.int .u8 (kind : Int))).setCell ⟨G, 6, none⟩ (.int .u8 ((s.size : Int) % 256))).setCell ⟨G, 7, none⟩ (.int .u8 ((s.size : Int) / 256 % 256)) = W := ⟨_, rfl⟩
  rw [hw3] at HA3 HB3 ⊢
  clear hw3 HA2 HB2 c4 c6 c7 f4 f6 f7
  have hcp := Lib.run_copy_row_string (P := Tryd.prog) w3 23 9 3 5 G 8 504 504 s _ 62 Tryd.underlying23 page_Seal.info5 HA3.out (by have := HS.out; omega) (by rw [List.size_toArray, Page.bd_length, Page.m2_length]; have := HS.out; omega)
  have HCP := Aside0.mk hcp
  clear hcp
  go_upto_region 9 with (with_reducible refine Page.wpList_copy_run w3 rfl (.tmp 41) (.tmp 42) 23 9 rfl (.slice (some ⟨G, 8, none⟩) 504 504) (.string s) rfl rfl HCP.out ?_)
  have hm3 : ((((Page.bd (Page.m2 id kind s.size)).toArray.toList.take 8) ++ Lib.byteCells s.data.toList ++ ((Page.bd (Page.m2 id kind s.size)).toArray.toList.drop (8 + s.size))).toArray) = (Page.bd (Page.m3 id kind (Page.nb s))).toArray := by
    rw [Page.byteCells_nb, ← NL.out]
    simp only [Page.m3, Page.bd, List.map_append, List.map_take, List.map_drop, List.append_assoc]
  rw [hm3]
  have hA4 := HA3.out.row (Page.m3 id kind (Page.nb s))
  have hB4 := below_setRow_ HB3.out HZ.out (Page.bd (Page.m3 id kind (Page.nb s))).toArray
  obtain ⟨w4, hw4⟩ : ∃ W, w3.setRow G (Page.bd (Page.m3 id kind (Page.nb s))).toArray = W := ⟨_, rfl⟩
  rw [hw4] at hA4 hB4 ⊢
  clear hw4 hm3 HCP HA3 HB3
  have HA4 := Aside0.mk hA4
  have HB4 := Aside0.mk hB4
  clear hA4 hB4
  have HA5 : Aside0 (Page.BArr w4.drew G (Page.m3 id kind (Page.nb s))) := ⟨HA4.out⟩
  have HG5 : Aside0 (Glob w4.drew) := ⟨by have h := HG.out.below HB4.out; exact h⟩
  go_region_with (first
    | (go_at_call 16; refine (page_Seal.sum w4.drew G (Page.m3 id kind (Page.nb s)) HA5.out (Page.m3_length _ _ _ (by rw [NL.out]; exact HS.out)) ?_ HG5.out).mono ?_; (rw [Page.m3_pre _ _ _ (by rw [NL.out]; exact HS.out)]; exact Page.pre_by (by have := HK.out; omega) (Page.nb_by s)); rintro e w5 ⟨rfl, ⟨n5, rfl⟩⟩)
    | (go_at_call 37; refine (Page.put_calls (w4.drewN (1 + n5)) G 508 4 4 (Page.m3 id kind (Page.nb s)) (HA4.out.drewN (1 + n5)) (by rw [Page.m3_length _ _ _ (by rw [NL.out]; exact HS.out)]; decide) (by decide) (Crc.upd 0 ((Page.m3 id kind (Page.nb s)).take 508))).mono ?_; rintro e w6 ⟨rfl, hA6, hB6⟩; have hB7 := Page.below_low (below_then HB4.out HB4.out.size (Drawn0.below ⟨⟨1 + n5, rfl⟩⟩)) HZ.out hB6; rw [Page.m3_pre _ _ _ (by rw [NL.out]; exact HS.out), Page.m4_eq _ _ _ (by rw [NL.out]; exact HS.out)] at hA6))
  all_goals (
    have hlen := Page.sealed_length id kind (Page.nb s) (by rw [NL.out]; exact HS.out)
    have hA7 : Page.BArr w6 G (Page.sealed id kind (Page.nb s)) := hA6
    have kst := string_of_reads (P := Tryd.prog) (dst := 9) (c := 512) Tryd.underlying23 Tryd.underlying5 Tryd.underlying9 (hA7.reads 512 (by omega) (by omega))
    rw [List.take_of_length_le (by omega)] at kst
    have HB7 := Aside0.mk hB7
    clear hA6 hA7 hB6 hB7 hlen
    go_wp2
    go_ret2
    exact ⟨rfl, HB7.out⟩)
set_option maxHeartbeats 4000000 in
set_option maxRecDepth 100000 in
theorem page_Seal.calls (a0 : Int) (a1 : Int) (a2 : ByteArray) (r1 : ByteArray) (r2 : Int) (w : World) (h : page_Seal.f a0 a1 a2 = some (r1, r2)) (hG : Glob w) :
    Calls Tryd.prog 21 #[.int .i64 a0, .int .i64 a1, .string a2] w fun e w' => e = .returned (.tuple #[.string r1, .int .i64 r2]) ∧ Below w.heap.size w w' := by
  unfold page_Seal.f at h
  by_cases c0 : a0 < 0 ∨ 2147483648 ≤ a0
  · rw [if_pos (by omega)] at h
    obtain ⟨rfl, rfl⟩ := Prod.mk.inj (Option.some.inj h)
    clear h hG
    have his : page_is.f a0 = some false := by
      unfold page_is.f
      by_cases h0 : a0 ≥ 0
      · rw [if_pos h0]; simp; omega
      · rw [if_neg h0]
    have HIS := Aside0.mk his
    clear his c0
    go_enter Tryd.func21, Tryd.ntmps21
    go_wp2_with (first | (go_at_call 36; refine (page_is.calls _ _ _ HIS.out).mono ?_; rintro e w1 ⟨rfl, hd1⟩))
    go_ret2
    exact ⟨rfl, hd1.below⟩
  have his : page_is.f a0 = some true := by unfold page_is.f; rw [if_pos (by omega)]; simp; omega
  have HIS := Aside0.mk his
  clear his
  by_cases c1 : a1 < 1
  · rw [if_pos (by omega)] at h
    obtain ⟨rfl, rfl⟩ := Prod.mk.inj (Option.some.inj h)
    clear h hG c0
    have k1 : decide (a1 < 1) = true := decide_eq_true c1
    clear c1
    go_enter Tryd.func21, Tryd.ntmps21
    go_wp2_with (first | (go_at_call 36; refine (page_is.calls _ _ _ HIS.out).mono ?_; rintro e w1 ⟨rfl, hd1⟩))
    go_ret2
    exact ⟨rfl, hd1.below⟩
  have k1 : decide (a1 < 1) = false := decide_eq_false c1
  by_cases c2 : 255 < a1
  · rw [if_pos (by omega)] at h
    obtain ⟨rfl, rfl⟩ := Prod.mk.inj (Option.some.inj h)
    clear h hG c0 c1
    have k2 : decide (255 < a1) = true := decide_eq_true c2
    clear c2
    go_enter Tryd.func21, Tryd.ntmps21
    go_wp2_with (first | (go_at_call 36; refine (page_is.calls _ _ _ HIS.out).mono ?_; rintro e w1 ⟨rfl, hd1⟩))
    go_ret2
    exact ⟨rfl, hd1.below⟩
  rw [if_neg (by omega)] at h
  by_cases c3 : 500 < a2.size
  · rw [if_pos c3] at h
    obtain ⟨rfl, rfl⟩ := Prod.mk.inj (Option.some.inj h)
    have k2 : decide (255 < a1) = false := decide_eq_false c2
    have k3 : decide ((500 : Int) < (a2.size : Int)) = true := decide_eq_true (by omega)
    clear h hG c0 c1 c2 c3
    go_enter Tryd.func21, Tryd.ntmps21
    go_wp2_with (first | (go_at_call 36; refine (page_is.calls _ _ _ HIS.out).mono ?_; rintro e w1 ⟨rfl, hd1⟩))
    go_ret2
    exact ⟨rfl, hd1.below⟩
  rw [if_neg c3] at h
  obtain ⟨rfl, rfl⟩ := Prod.mk.inj (Option.some.inj h)
  obtain ⟨id, rfl⟩ := Int.eq_ofNat_of_zero_le (show 0 ≤ a0 by omega)
  obtain ⟨kind, rfl⟩ := Int.eq_ofNat_of_zero_le (show 0 ≤ a1 by omega)
  exact page_Seal.good id kind (by omega) (by omega) (by omega) a2 (by omega) w hG


end Go.Proofs.YthkcnkhhaiapfaaDoor.PPageAll
