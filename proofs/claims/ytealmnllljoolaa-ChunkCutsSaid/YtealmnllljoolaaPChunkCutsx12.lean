/- Functions that the law reaches, each as a Lean function with the proof that the Go code comes to its answers; laid by wip/hook.py, a program of this session, over the print of the kit. -/
import Derived.Test.YtealmnllljoolaaPChunkCutsx0
namespace Go.Proofs.Ytealmnllljoolaa.PChunkCuts
open Go.RowKit Go.Proofs.YtealmnllljoolaaW.PrintWords Go.Proofs.YtealmnllljoolaaW.PrintLast Go.Proofs.YtealmnllljoolaaW.PrintMore
attribute [local go_sem] max2_int min2_int max_two min_two max_three min_three max_four min_four   -- for this text's walks alone
set_option linter.unusedVariables false
set_option linter.unusedSimpArgs false

/-! ### chunk_Split: function 24 -/
/-- The chunk of that number. -/
def chunk_Split.at_ (s : ByteArray) (i : Nat) : ByteArray := s.extract (64 * i) (64 * i + 64)
def chunk_Split.row (s : ByteArray) (n : Nat) : List ByteArray := (List.range n).map (chunk_Split.at_ s)
def chunk_Split.f (a0 : ByteArray) : Option (List ByteArray) := if a0.size ≤ 140737488351232 then some (chunk_Split.row a0 ((a0.size + 63) / 64)) else none
theorem chunk_Split.row_succ (s : ByteArray) (n : Nat) : chunk_Split.row s (n + 1) = chunk_Split.row s n ++ [chunk_Split.at_ s n] := by
  unfold chunk_Split.row; rw [List.range_succ, List.map_append]; rfl
theorem chunk_Split.row_length (s : ByteArray) (n : Nat) : (chunk_Split.row s n).length = n := by unfold chunk_Split.row; simp
theorem chunk_Split.piece (s : ByteArray) (j : Nat) : strOfNums (((bytesOf s).drop (64 * j)).take (min 64 (s.size - 64 * j))) = chunk_Split.at_ s j := by
  apply Copy.ba_ext
  rw [strOfNums_data, chunk_Split.at_, Copy.extract_list, List.map_take, List.map_drop, Copy.back_bytes, show 64 * j + 64 - 64 * j = 64 by omega]
  rcases Nat.le_total 64 (s.size - 64 * j) with h | h
  · rw [Nat.min_eq_left h]
  · rw [Nat.min_eq_right h, List.take_of_length_le (by rw [List.length_drop, data_length]; omega), List.take_of_length_le (by rw [List.length_drop, data_length]; omega)]
set_option maxHeartbeats 1000000 in
theorem chunk_Split.calls (a0 : ByteArray) (r : List ByteArray) (w : World) (h : chunk_Split.f a0 = some r) :
    Calls Try.prog 24 #[.string a0] w fun e w' => ∃ v0_ : Value, e = .returned (v0_) ∧ Kd.R Kd.string 9 w' w.heap.size (fun _ => True) v0_ r ∧ Below w.heap.size w w' := by
  unfold chunk_Split.f at h
  by_cases c1 : a0.size ≤ 140737488351232
  case neg => rw [if_neg c1] at h; cases h
  rw [if_pos c1] at h
  obtain rfl := Option.some.inj h
  clear h
  have kb := fun W => print_bytes (P := Try.prog) 9 32 5 Try.underlying9 Try.underlying32 Try.underlying5 a0 W
  obtain ⟨i5, hi5, hz5⟩ := Option.map_eq_some_iff.1 info5
  simp only [Prod.mk.injEq] at hz5
  have hs5 := Aside0.mk (And.intro hi5 hz5.2.1)
  clear hi5 hz5
  obtain ⟨c, hc⟩ : ∃ c, grownCap w a0.size 0 5 = c := ⟨_, rfl⟩
  have hcap : a0.size ≤ c := by rw [← hc]; exact grownCap_ge _ _ _ _
  have r0 : Aside0 (ReadsInt (Lib.bytesWorld w 5 a0) .u8 (some ⟨w.heap.size, 0, none⟩) a0.size (bytesOf a0)) := ⟨bytes_reads w 5 a0 (by omega)⟩
  have b0 : Aside0 (Below w.heap.size w (Lib.bytesWorld w 5 a0)) := ⟨bytes_below (Below.refl _ _) (Nat.le_refl _) 5 a0⟩
  obtain ⟨W0, hW0⟩ : ∃ W0, Lib.bytesWorld w 5 a0 = W0 := ⟨_, rfl⟩
  rw [hW0] at r0 b0
  go_enter Try.func24, Try.ntmps24
  go_wp2
  go_loopw [3, 4] (fun v3 v4 wr => ∃ (j n cp : Nat) (A : Option Addr), v4 = .slice A n cp ∧ Aside0 (n = a0.size - 64 * j) ∧ 64 * j < a0.size + 64 ∧ n ≤ cp ∧ Aside0 (ReadsInt W0 .u8 A n ((bytesOf a0).drop (64 * j))) ∧
      Aside0 (Kd.R Kd.string 9 wr W0.heap.size (fun _ => True) v3 (chunk_Split.row a0 j)) ∧ Aside0 (Below W0.heap.size W0 wr)) (fun _ v4 _ => match v4 with | .slice _ n _ => n | _ => 0)
  case atStart => exact ⟨0, a0.size, c, _, rfl, ⟨by omega⟩, by omega, hcap, ⟨by simpa using r0.out⟩, ⟨Kd.R_nil _ _ _ _ _⟩, ⟨Below.refl _ _⟩⟩
  case round =>
    clear hW0
    obtain ⟨j, n, cp, A, rfl, hn, hj, hncp, hR, hO, hB⟩ := hrel
    by_cases hpos : 0 < n
    · obtain ⟨m, hm⟩ : ∃ m : Nat, min 64 n = m := ⟨_, rfl⟩
      have hmi : (if (n : Int) < 64 then (n : Int) else 64) = (m : Int) := by split <;> omega
      have hmn : m ≤ n := by omega
      have hm64 := Aside0.mk hm
      clear hm
      have hn' := hn.out
      have h18 : ∀ W : World, (Instr.slice 32 (.slice A n cp) none (some (.int .i64 (m : Int))) (some (.int .i64 (m : Int)))).run Try.prog W = .ok (.slice A m m) W := by
        intro W
        have hel : Try.prog.elem 32 = 5 := by simp [Program.elem, Try.underlying32]
        have hu : Try.prog.underlying 32 = some (.slice (Try.prog.elem 32)) := by rw [hel]; exact Try.underlying32
        have ha : (A.map fun x => x.add 0) = A := by cases A <;> simp [Addr.add]
        rw [run_slice_hm W 32 A n cp hu .i64 .i64 (m : Int) (m : Int) (by omega) (by omega) (by omega), hel]
        simp [sizeOf, typeInfo, hs5.out.1, hs5.out.2, sliced, Result.andThen, ha]
      obtain ⟨p, hp⟩ : ∃ p, chunk_Split.at_ a0 j = p := ⟨_, rfl⟩
      have h19 : (convert 32 9 (.slice A m m)).run Try.prog wr = .ok (.string p) wr := by
        have hr := (hR.out.below hB.out).take_ m hmn
        rw [string_of_reads Try.underlying32 Try.underlying5 Try.underlying9 hr, ← hm64.out, hn', chunk_Split.piece, hp]
      obtain ⟨A', h24, hA'⟩ := print_cut (P := Try.prog) 32 5 .i64 Try.underlying32 hs5.out.1 hs5.out.2 A n cp m hmn
      have hR' := Aside0.mk (hA' W0 .u8 _ hncp hR.out)
      have hl : (chunk_Split.row a0 j).length = j := chunk_Split.row_length a0 j
      clear hA' hn'
      have hP := Aside0.mk hp
      have hL := Aside0.mk hl
      clear hp hl
      go_wp2_with (first | ((with_reducible refine gate_builtin (b := .append) (xs := #[.tmp 14, .tmp 20]) rfl ?_); at_builtin; refine Kd.R_append Kd.string (w0 := W0) W0.heap.size rfl (.tmp 14) (.tmp 20) 40 9 (.string ⟨#[]⟩) 16 rfl Try.underlying40 info9 rfl (by decide) (by omega) u3 (chunk_Split.row a0 j) p [.string p] (fun _ => True) (fun _ => False) rfl rfl ?aP (fun _ hk => hk.elim) ?aF ?aO ?aB ?aS ?aL ?_; (case aP => exact rfl); (case aF => exact (fun _ _ => trivial)); (case aO => exact hO.out); (case aB => exact hB.out); (case aS => exact hB.out.size); (case aL => rw [hL.out]; omega); intro v1 w1 ho hb hg hat; have HO1 := Aside0.mk ho; have HB1 := Aside0.mk hb; clear ho hb hg hat))
      go_roundw
      case rel =>
        have hd : ((bytesOf a0).drop (64 * j)).drop m = (bytesOf a0).drop (64 * (j + 1)) ∨ (n - m = 0) := by
          by_cases h64 : m = 64
          · left; rw [List.drop_drop, h64]; congr 1
          · right; have := hm64.out; omega
        have hn1 := hn.out
        have hm1 := hm64.out
        refine ⟨j + 1, n - m, cp - m, A', rfl, ⟨by omega⟩, by omega, by omega, ⟨?_⟩, ⟨?_⟩, HB1⟩
        · rcases hd with hd | hd
          · rw [← hd]; exact hR'.out
          · rw [hd]
            refine ⟨?_, by omega, fun h => absurd h (by omega)⟩
            rw [List.length_drop, bytesOf_length]; omega
        · rw [chunk_Split.row_succ, hP.out]; exact HO1.out
      case measure => simp; omega
    · obtain rfl : n = 0 := by omega
      go_wp2
      go_ret
      have hn1 := hn.out
      have hjj : (a0.size + 63) / 64 = j := by omega
      rw [hjj]
      exact ⟨_, rfl, Kd.R_lower hO.out b0.out.size, below_then b0.out b0.out.size hB.out⟩


end Go.Proofs.Ytealmnllljoolaa.PChunkCuts
