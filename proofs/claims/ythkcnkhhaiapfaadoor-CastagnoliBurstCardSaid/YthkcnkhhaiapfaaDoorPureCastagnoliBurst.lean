/- The plain law of CastagnoliBurst: that what the walk computes answers as the statement says. -/
import Derived.Test.YthkcnkhhaiapfaaDoorPCastagnoliBurstx11
import Derived.Test.YthkcnkhhaiapfaaDoorPureKit
namespace Go.Proofs.YthkcnkhhaiapfaaDoor.Pure.CastagnoliBurst
open Go.RowKit Go.Proofs.YthkcnkhhaiapfaaDoor.PCastagnoliBurst Go.Proofs.YthkcnkhhaiapfaaDoorW.PrintWords Go.Proofs.YthkcnkhhaiapfaaDoorW.PrintLast
theorem upd_f {s : Nat} {l : List Nat} (hs : s < 4294967296) (hl : Crc.By l) : castagnoli_Update.f (s : Int) (Crc.ints l) = some ((Crc.upd s l : Nat) : Int) := Crc.upd_if hs hl
theorem sum_f {l : List Nat} (hl : Crc.By l) : castagnoli_Sum.f (Crc.ints l) = some ((Crc.upd 0 l : Nat) : Int) := by
  unfold castagnoli_Sum.f
  have := upd_f (s := 0) (by decide) hl
  rw [show ((0 : Nat) : Int) = 0 from rfl] at this
  rw [this]
  rfl
theorem u64_nat {i : Nat} (h : i < 100) : IntKind.u64.wrap (i : Int) = (i : Int) := by rw [IntKind.wrap_u64]; omega
theorem bit_of {c i : Nat} (hc : c < 4294967296) (hi : i < 32) : Go.bits .and .u32 (shr .u32 (c : Int) (i : Int)) 1 = ((c / 2 ^ i % 2 : Nat) : Int) := by
  have e : shr .u32 (c : Int) (i : Int) = ((c / 2 ^ i : Nat) : Int) := by
    unfold shr
    rw [Int.toNat_natCast, Nat.min_eq_left (show i ≤ IntKind.u32.bits by simp [IntKind.bits]; omega), Int.natCast_ediv]
    simp
  rw [e, Crc.walk_bit (Nat.lt_of_le_of_lt (Nat.div_le_self _ _) hc)]
theorem shl_of {j : Nat} (hj : j < 8) : shl .u8 1 (j : Int) = ((2 ^ j : Nat) : Int) := by
  have : ∀ q : Fin 8, shl .u8 1 ((q.val : Nat) : Int) = ((2 ^ q.val : Nat) : Int) := by decide +kernel
  exact this ⟨j, hj⟩
structure Inv (a b : List Nat) (p c i : Nat) : Prop where
  by_ : Crc.By b
  len : b.length = a.length
  val : Crc.val b = Crc.val a ^^^ 2 ^ p * (c % 2 ^ i)
theorem done {a b : List Nat} {p c i : Nat} (ha : Crc.By a) (h : Inv a b p c i) (hc : c < 4294967296) (hp : p ≤ 8 * a.length) (k : Nat) (x2 x7 x8 x11 : Int) :
    aquiferlaw01_CastagnoliBurst.j2 (k + 1) (Crc.ints a) x2 x7 x8 (Crc.ints b) (decide (c % 2 ^ i ≠ 0)) x11 false = some true := by
  rw [aquiferlaw01_CastagnoliBurst.j2, if_neg (by decide), sum_f h.by_, Option.bind_some, sum_f ha, Option.bind_some]
  have hb := Crc.upd_burst (c := c % 2 ^ i) h.len h.val (Nat.lt_of_le_of_lt (Nat.mod_le _ _) hc) hp
  have he : (decide (c % 2 ^ i ≠ 0) == (((Crc.upd 0 b : Nat) : Int) != ((Crc.upd 0 a : Nat) : Int))) = true := by
    by_cases h0 : c % 2 ^ i = 0
    · rw [hb.2 h0]
      simp [h0]
    · have hne : ¬ ((Crc.upd 0 b : Nat) : Int) = ((Crc.upd 0 a : Nat) : Int) := fun e => h0 (hb.1 (Int.ofNat.inj e))
      rw [decide_eq_true h0, bne_iff_ne.2 hne]
      rfl
  rw [if_pos he]
  rfl
theorem loop (a : List Nat) (ha : Crc.By a) (hl : a.length ≤ 2000) (c p : Nat) (hc : c < 4294967296) (hp : p ≤ 8 * a.length) : ∀ k i b, i ≤ 32 → 2 * (32 - i) + 2 ≤ k → Inv a b p c i →
    aquiferlaw01_CastagnoliBurst.l0 k (Crc.ints a) (c : Int) ((8 * a.length : Nat) : Int) (p : Int) (Crc.ints b) (decide (c % 2 ^ i ≠ 0)) (i : Int) = some true
  | k, i, b, hi, hk, h => by
    obtain ⟨k, rfl⟩ : ∃ k', k = k' + 2 := ⟨k - 2, by omega⟩
    rw [aquiferlaw01_CastagnoliBurst.l0]
    by_cases h32 : (i : Int) < 32
    · have e1 : wrap64 ((p : Int) + (i : Int)) = ((p + i : Nat) : Int) := by unfold wrap64; omega
      rw [if_pos h32, e1]
      by_cases hin : p + i < 8 * a.length
      · have d : decide (((p + i : Nat) : Int) < ((8 * a.length : Nat) : Int)) = true := by simp; omega
        rw [d, aquiferlaw01_CastagnoliBurst.j2, if_pos rfl, u64_nat (by omega), if_pos (by omega), bit_of hc (by omega), e1, Crc.wrap_succ (by omega)]
        have hx := Crc.bit_xor c i
        by_cases hb : c / 2 ^ i % 2 = 1
        · have e2 : wrap64 (Int.tdiv ((p + i : Nat) : Int) 8) = (((p + i) / 8 : Nat) : Int) := by
            rw [Int.tdiv_eq_ediv_of_nonneg (by omega)]
            unfold wrap64
            omega
          have e3 : Int.tmod ((p + i : Nat) : Int) 8 = (((p + i) % 8 : Nat) : Int) := by
            rw [Int.tmod_eq_emod_of_nonneg (by omega)]
            omega
          have hj : (p + i) % 8 < 8 := Nat.mod_lt _ (by decide)
          rw [if_pos (by omega), e2, e3, u64_nat (by omega), Crc.ints_length, h.len, if_pos (by omega), if_pos (by omega), if_pos (by omega), Crc.ints_rd, shl_of hj, Int.toNat_natCast]
          have hp2 : 2 ^ ((p + i) % 8) < 256 := Nat.pow_lt_pow_right (a := 2) (n := 8) (by decide) hj
          rw [Go.u8_xor_nat _ _ (h.by_.get _) hp2, Crc.ints_set]
          rw [if_pos hb] at hx
          have hn : c % 2 ^ (i + 1) ≠ 0 := by
            intro h0
            rw [Nat.mod_pow_succ, hb] at h0
            have := Nat.two_pow_pos i
            omega
          have hinv : Inv a (b.set ((p + i) / 8) (b.getD ((p + i) / 8) 0 ^^^ 2 ^ ((p + i) % 8))) p c (i + 1) := by
            refine ⟨fun x hx => ?_, by rw [List.length_set, h.len], ?_⟩
            · rcases List.mem_or_eq_of_mem_set hx with hx | rfl
              · exact h.by_ x hx
              · exact Nat.xor_lt_two_pow (n := 8) (h.by_.get _) hp2
            · rw [Crc.val_set _ _ _ (by rw [h.len]; omega), h.val, hx, Crc.pow_xor, ← Nat.pow_add, Nat.xor_assoc, show 8 * ((p + i) / 8) + (p + i) % 8 = p + i by omega]
          have := loop a ha hl c p hc hp k (i + 1) _ (by omega) (by omega) hinv
          rw [decide_eq_true hn] at this
          exact this
        · rw [if_neg (by omega)]
          rw [if_neg hb, Nat.xor_zero] at hx
          have hinv : Inv a b p c (i + 1) := ⟨h.by_, h.len, by rw [hx]; exact h.val⟩
          have := loop a ha hl c p hc hp k (i + 1) b (by omega) (by omega) hinv
          rw [hx] at this
          exact this
      · have d : decide (((p + i : Nat) : Int) < ((8 * a.length : Nat) : Int)) = false := by simp; omega
        rw [d]
        exact done ha h hc hp k _ _ _ _
    · rw [if_neg h32]
      exact done ha h hc hp k _ _ _ _
  termination_by k => k
theorem start (a : List Nat) (ha : Crc.By a) (hl : a.length ≤ 2000) (h0 : a.length ≠ 0) (x1 : Int) (c : Nat) (hc : c < 4294967296) (k : Nat) (hk : 70 ≤ k) : aquiferlaw01_CastagnoliBurst.j0 k (Crc.ints a) x1 (c : Int) false = some true := by
  obtain ⟨k, rfl⟩ : ∃ k', k = k' + 1 := ⟨k - 1, by omega⟩
  have e1 : wrap64 (8 * ((Crc.ints a).length : Int)) = ((8 * a.length : Nat) : Int) := by
    rw [Crc.ints_length]
    unfold wrap64
    omega
  rw [aquiferlaw01_CastagnoliBurst.j0, if_neg (by decide), e1, if_neg (by omega), Option.bind_some]
  have b1 := Int.tmod_lt_of_pos x1 (show (0 : Int) < ((8 * a.length : Nat) : Int) by omega)
  have b2 := Int.lt_tmod_of_pos x1 (show (0 : Int) < ((8 * a.length : Nat) : Int) by omega)
  obtain ⟨p, hp, hpl⟩ : ∃ p : Nat, Int.tmod (wrap64 (Int.tmod x1 ((8 * a.length : Nat) : Int) + ((8 * a.length : Nat) : Int))) ((8 * a.length : Nat) : Int) = (p : Int) ∧ p ≤ 8 * a.length := by
    have e2 : wrap64 (Int.tmod x1 ((8 * a.length : Nat) : Int) + ((8 * a.length : Nat) : Int)) = Int.tmod x1 ((8 * a.length : Nat) : Int) + ((8 * a.length : Nat) : Int) := by unfold wrap64; omega
    rw [e2]
    generalize hq : Int.tmod x1 ((8 * a.length : Nat) : Int) + ((8 * a.length : Nat) : Int) = q
    have c0 : 0 ≤ q := by omega
    have c2 := Int.tmod_lt_of_pos q (show (0 : Int) < ((8 * a.length : Nat) : Int) by omega)
    have c1 := Int.tmod_nonneg ((8 * a.length : Nat) : Int) c0
    exact ⟨(Int.tmod q ((8 * a.length : Nat) : Int)).toNat, by omega, by omega⟩
  rw [hp, Crc.ints_length, List.length_nil, if_pos (by omega), List.nil_append]
  have := loop a ha hl c p hc hpl k 0 a (by omega) (by omega) ⟨ha, rfl, by rw [Nat.pow_zero, Nat.mod_one, Nat.mul_zero, Nat.xor_zero]⟩
  rw [Nat.pow_zero, Nat.mod_one] at this
  exact this
theorem CastagnoliBurst : aquiferlaw01_CastagnoliBurst.Pure := by
  intro l0 a1 a2 _ _ hb _ h2
  obtain ⟨a, rfl, ha⟩ := Crc.bytes_of l0 hb
  obtain ⟨c, rfl, hc⟩ := Crc.word_of h2
  refine ⟨80, ?_⟩
  unfold aquiferlaw01_CastagnoliBurst.f aquiferlaw01_few.f
  rw [Crc.ints_take, Option.bind_some]
  by_cases h0 : ((Crc.ints (a.take 2000)).length : Int) = 0
  · rw [if_pos h0, aquiferlaw01_CastagnoliBurst.j0, if_pos rfl]
    rfl
  · rw [if_neg h0]
    rw [Crc.ints_length] at h0
    by_cases hz : ((c : Int) == 0) = true
    · rw [hz, aquiferlaw01_CastagnoliBurst.j0, if_pos rfl]
      rfl
    · rw [Bool.not_eq_true] at hz
      rw [hz]
      exact start _ (ha.take 2000) (by rw [List.length_take]; omega) (by omega) a1 c hc 80 (by omega)
end Go.Proofs.YthkcnkhhaiapfaaDoor.Pure.CastagnoliBurst
namespace Go.Proofs.YthkcnkhhaiapfaaDoor.Pure
theorem CastagnoliBurst : PCastagnoliBurst.aquiferlaw01_CastagnoliBurst.Pure := CastagnoliBurst.CastagnoliBurst
end Go.Proofs.YthkcnkhhaiapfaaDoor.Pure
