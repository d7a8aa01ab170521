/- Functions that the law reaches, each as a Lean function with the proof that the Go code comes to its answers; laid by wip/hook.py, a program of this session, over the print of the kit. -/
import Derived.Test.YthkcnkhhaiapfaaDoorPPageAllx0
namespace Go.Proofs.YthkcnkhhaiapfaaDoor.PPageAll
open Go.RowKit Go.Proofs.YthkcnkhhaiapfaaDoorW.PrintWords Go.Proofs.YthkcnkhhaiapfaaDoorW.PrintLast Go.Proofs.YthkcnkhhaiapfaaDoorW.PrintMore
attribute [local go_sem] max2_int min2_int max_two min_two max_three min_three max_four min_four   -- for this text's walks alone
set_option linter.unusedVariables false
set_option linter.unusedSimpArgs false

/-! ### castagnoli_Update: function 18 -/
def castagnoli_Update.f (a0 : Int) (l1 : List Int) : Option Int :=
  if 0 ≤ a0 ∧ a0 < 4294967296 ∧ (∀ x ∈ l1, 0 ≤ x ∧ x < 256) then some ((Crc.upd a0.toNat (l1.map Int.toNat) : Nat) : Int) else none
set_option maxHeartbeats 1000000 in
set_option maxRecDepth 100000 in
theorem castagnoli_Update.calls (a0 : Int) (A1 : Option Addr) (c1 : Nat) (l1 : List Int) (r : Int) (w : World) (hr1 : Kd.C (Kd.int .u8) w A1 l1.length l1) (hc1 : l1.length ≤ c1) (h : castagnoli_Update.f a0 l1 = some r) (hG : Glob w) :
    Calls Tryd.prog 18 #[.int .u32 a0, .slice A1 l1.length c1] w fun e w' => e = .returned (.int .u32 r) ∧ Drawn0 w w' := by
  have HG := Aside0.mk hG
  have HR1 := Aside0.mk hr1
  clear hr1 hG
  unfold castagnoli_Update.f at h
  by_cases c0 : 0 ≤ a0 ∧ a0 < 4294967296 ∧ (∀ x ∈ l1, 0 ≤ x ∧ x < 256)
  case neg => rw [if_neg c0] at h; cases h
  rw [if_pos c0] at h
  obtain rfl := Option.some.inj h
  clear h
  obtain ⟨h0, h1, hb⟩ := c0
  have HBy := Aside0.mk hb
  clear hb
  obtain ⟨s, rfl⟩ := Int.eq_ofNat_of_zero_le h0
  clear h0
  have h1' : s < 4294967296 := by omega
  have H1 := Aside0.mk h1'
  clear h1 h1'
  have e0 := Crc.walk_not H1.out
  obtain ⟨q, hq⟩ : ∃ q, 4294967295 ^^^ s = q := ⟨_, rfl⟩
  rw [hq] at e0
  have HQ := Aside0.mk hq
  have hql := Aside0.mk (show q < 4294967296 by rw [← hq]; exact Crc.xor_lt (by decide) H1.out)
  clear hq
  go_enter Tryd.func18, Tryd.ntmps18
  go_wp2
  go_loop [5, 12] (fun v5 v12 => ∃ j r : Nat, v5 = .int .u32 r ∧ v12 = .int .i64 j ∧ j ≤ l1.length ∧ Aside0 (r < 4294967296) ∧ Aside0 (Crc.feed q ((l1.take j).map Int.toNat) = r)) (fun _ v12 => l1.length - (intOf v12).toNat)
  case atStart => exact ⟨0, q, rfl, rfl, Nat.zero_le _, hql, ⟨rfl⟩⟩
  case round =>
    clear e0
    obtain ⟨j, r, rfl, rfl, hj, hr, hF⟩ := hrel
    by_cases hlt : j < l1.length
    · obtain ⟨ad, rfl, hcw⟩ := (Kd.reads_of_C (enc := Value.int .u8) (d := (0 : Int)) (h1 := fun _ => rfl) HR1.out).at_ (j : Int) (by omega) (by omega)
      obtain ⟨x, hx, hx8⟩ : ∃ x : Nat, l1[j] = x ∧ x < 256 := by
        have := HBy.out l1[j] (List.getElem_mem hlt)
        exact ⟨l1[j].toNat, by omega, by omega⟩
      have hrd : rdOf (0 : Int) l1 (j : Int) = (x : Int) := by
        unfold rdOf
        rw [Int.toNat_natCast, List.getD_eq_getElem?_getD, List.getElem?_eq_getElem hlt]
        exact hx
      rw [Int.toNat_natCast, hrd] at hcw
      have hjm : j ≤ 9223372036854775806 := by
        have := (Kd.reads_of_C (enc := Value.int .u8) (d := (0 : Int)) (h1 := fun _ => rfl) HR1.out).2.1
        omega
      have f1 := Crc.walk_byte hx8
      have f2 := u32_xor_nat r x hr.out (by omega)
      obtain ⟨r1, hr1⟩ : ∃ r1, r ^^^ x = r1 := ⟨_, rfl⟩
      rw [hr1] at f2
      have hr1l : r1 < 4294967296 := by rw [← hr1]; exact Crc.xor_lt hr.out (by omega)
      have f3 := Crc.walk_and hr1l
      have f4 := Crc.walk_nib hr1l
      have f5 : (r1 : Int) / 16 = ((r1 / 16 : Nat) : Int) := by omega
      have f6 := HG.out (r1 % 16) (by omega)
      obtain ⟨r2, hr2⟩ : ∃ r2, Crc.nib r1 = r2 := ⟨_, rfl⟩
      rw [hr2] at f4
      have hr2l : r2 < 4294967296 := by rw [← hr2]; exact Crc.nib_lt hr1l
      have g3 := Crc.walk_and hr2l
      have g4 := Crc.walk_nib hr2l
      have g5 : (r2 : Int) / 16 = ((r2 / 16 : Nat) : Int) := by omega
      have g6 := HG.out (r2 % 16) (by omega)
      obtain ⟨r3, hr3⟩ : ∃ r3, Crc.nib r2 = r3 := ⟨_, rfl⟩
      rw [hr3] at g4
      have hr3l : r3 < 4294967296 := by rw [← hr3]; exact Crc.nib_lt hr2l
      obtain ⟨k1, hk1⟩ : ∃ k, r1 % 16 = k := ⟨_, rfl⟩
      obtain ⟨k2, hk2⟩ : ∃ k, r2 % 16 = k := ⟨_, rfl⟩
      obtain ⟨d1, hd1⟩ : ∃ k, r1 / 16 = k := ⟨_, rfl⟩
      obtain ⟨d2, hd2⟩ : ∃ k, r2 / 16 = k := ⟨_, rfl⟩
      obtain ⟨t1, ht1⟩ : ∃ k, Crc.half k1 = k := ⟨_, rfl⟩
      obtain ⟨t2, ht2⟩ : ∃ k, Crc.half k2 = k := ⟨_, rfl⟩
      have hk1l : k1 < 16 := by omega
      have hk2l : k2 < 16 := by omega
      rw [hk1, hd1, ht1] at f4
      rw [hk1, ht1] at f6
      rw [hk1] at f3
      rw [hd1] at f5
      rw [hk2, hd2, ht2] at g4
      rw [hk2, ht2] at g6
      rw [hk2] at g3
      rw [hd2] at g5
      have HX := Aside0.mk hx
      have R1 := Aside0.mk hr1
      have R2 := Aside0.mk hr2
      have R3 := Aside0.mk hr3
      have L3 := Aside0.mk hr3l
      clear hrd hx hr1 hr2 hr3 hr1l hr2l hr3l hk1 hk2 hd1 hd2 ht1 ht2
      go_wp2
      go_round
      case rel =>
        refine ⟨j + 1, r3, rfl, by go_num, by omega, L3, ⟨?_⟩⟩
        rw [List.take_succ_eq_append_getElem hlt, List.map_append, List.map_cons, List.map_nil, Crc.feed_snoc, hF.out, HX.out, Int.toNat_natCast]
        unfold Crc.byte
        rw [R1.out, R2.out, R3.out]
      case measure => simp [intOf]; omega
    · obtain rfl : j = l1.length := by omega
      have e1 := Crc.walk_not hr.out
      go_wp2
      go_ret
      refine ⟨?_, Drawn0.refl _⟩
      unfold Crc.upd
      have hf := hF.out
      rw [List.take_length] at hf
      rw [HQ.out, hf]
      rfl


end Go.Proofs.YthkcnkhhaiapfaaDoor.PPageAll
