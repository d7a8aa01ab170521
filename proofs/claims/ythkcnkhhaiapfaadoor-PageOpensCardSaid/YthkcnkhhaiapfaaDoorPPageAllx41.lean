/- Functions that the law reaches, each as a Lean function with the proof that the Go code comes to its answers; laid by wip/hook.py, a program of this session, over the print of the kit. -/
import Derived.Test.YthkcnkhhaiapfaaDoorPPageAllx0
import Derived.Test.YthkcnkhhaiapfaaDoorPPageAllx37
import Derived.Test.YthkcnkhhaiapfaaDoorPPageAllx38
import Derived.Test.YthkcnkhhaiapfaaDoorPPageAllx39
import Derived.Test.YthkcnkhhaiapfaaDoorPPageAllx40
namespace Go.Proofs.YthkcnkhhaiapfaaDoor.PPageAll
open Go.RowKit Go.Proofs.YthkcnkhhaiapfaaDoorW.PrintWords Go.Proofs.YthkcnkhhaiapfaaDoorW.PrintLast Go.Proofs.YthkcnkhhaiapfaaDoorW.PrintMore
attribute [local go_sem] max2_int min2_int max_two min_two max_three min_three max_four min_four   -- for this text's walks alone
set_option linter.unusedVariables false
set_option linter.unusedSimpArgs false

/-! ### aquiferref09_Seal: function 33 -/
theorem aquiferref09_put.one (x : Int) (n : Nat) (h : x = ((n % 256 : Nat) : Int)) : strOfNums [x] = Page.str [n % 256] := by
  subst h
  rfl
theorem aquiferref09_put.round (k n m : Nat) (l : List Nat) (i : Nat) (hn : n < 9223372036854775808) (hi : i < m) (hm : m < 100) (hs : l.length < 1000) :
    aquiferref09_put.l0 (k + 1) (n : Int) (m : Int) (Page.str l) (i : Int) = aquiferref09_put.l0 k ((n / 256 : Nat) : Int) (m : Int) (Page.str (l ++ [n % 256])) ((i + 1 : Nat) : Int) := by
  rw [aquiferref09_put.l0, if_pos (by omega), Option.bind_some]
  have e1 : Int.tmod (n : Int) 256 % 256 = ((n % 256 : Nat) : Int) := by rw [Int.tmod_eq_emod_of_nonneg (by omega)]; omega
  have e2 : wrap64 (Int.tdiv (n : Int) 256) = ((n / 256 : Nat) : Int) := by rw [Int.tdiv_eq_ediv_of_nonneg (by omega)]; unfold wrap64; omega
  have e3 : wrap64 ((i : Int) + 1) = ((i + 1 : Nat) : Int) := by unfold wrap64; omega
  rw [aquiferref09_put.one _ n e1, e2, e3, if_pos (by rw [Page.str_size, Page.str_size]; show l.length + 1 ≤ _; omega), Page.str_append]
theorem aquiferref09_put.stop (k n m : Nat) (s : ByteArray) : aquiferref09_put.l0 (k + 1) (n : Int) (m : Int) s (m : Int) = some s := by
  rw [aquiferref09_put.l0, if_neg (by omega)]
theorem aquiferref09_put.four (n : Nat) (hn : n < 9223372036854775808) : aquiferref09_put.f 5 (n : Int) 4 = some (Page.str (Page.le4 n)) := by
  have h0 := aquiferref09_put.round 4 n 4 [] 0 hn (by omega) (by omega) (by simp)
  have h1 := aquiferref09_put.round 3 (n / 256) 4 [n % 256] 1 (by omega) (by omega) (by omega) (by simp)
  have h2 := aquiferref09_put.round 2 (n / 256 / 256) 4 [n % 256, n / 256 % 256] 2 (by omega) (by omega) (by omega) (by simp)
  have h3 := aquiferref09_put.round 1 (n / 256 / 256 / 256) 4 [n % 256, n / 256 % 256, n / 256 / 256 % 256] 3 (by omega) (by omega) (by omega) (by simp)
  have h4 := aquiferref09_put.stop 0 (n / 256 / 256 / 256 / 256) 4 (Page.str [n % 256, n / 256 % 256, n / 256 / 256 % 256, n / 256 / 256 / 256 % 256])
  refine h0.trans (h1.trans (h2.trans (h3.trans (h4.trans ?_))))
  rw [show Page.le4 n = [n % 256, n / 256 % 256, n / 256 / 256 % 256, n / 256 / 256 / 256 % 256] by
    unfold Page.le4
    rw [Nat.div_div_eq_div_mul, Nat.div_div_eq_div_mul]]
theorem aquiferref09_put.single (n : Nat) (hn : n < 256) : aquiferref09_put.f 2 (n : Int) 1 = some (Page.str [n]) := by
  have h0 := aquiferref09_put.round 1 n 1 [] 0 (by omega) (by omega) (by omega) (by simp)
  have h1 := aquiferref09_put.stop 0 (n / 256) 1 (Page.str [n % 256])
  rw [Nat.mod_eq_of_lt hn] at h0 h1
  exact h0.trans h1
theorem aquiferref09_put.two (n : Nat) (hn : n < 9223372036854775808) : aquiferref09_put.f 3 (n : Int) 2 = some (Page.str [n % 256, n / 256 % 256]) := by
  have h0 := aquiferref09_put.round 2 n 2 [] 0 (by omega) (by omega) (by omega) (by simp)
  have h1 := aquiferref09_put.round 1 (n / 256) 2 [n % 256] 1 (by omega) (by omega) (by omega) (by simp)
  have h2 := aquiferref09_put.stop 0 (n / 256 / 256) 2 (Page.str [n % 256, n / 256 % 256])
  exact h0.trans (h1.trans h2)
theorem aquiferref01_take.round (k : Nat) {r i : Nat} (hr : r < 4294967296) (hi : i < 8) : aquiferref01_take.l0 (k + 1) (r : Int) (i : Int) = aquiferref01_take.l0 k ((Crc.step r : Nat) : Int) ((i + 1 : Nat) : Int) := by
  rw [aquiferref01_take.l0, if_pos (by omega), Crc.wrap_succ (by omega)]
  have e1 : Int.tdiv (r : Int) 2 % 4294967296 = ((r / 2 : Nat) : Int) := by
    rw [Int.tdiv_eq_ediv_of_nonneg (by omega)]
    omega
  have e2 : Int.tmod (r : Int) 2 = ((r % 2 : Nat) : Int) := by
    rw [Int.tmod_eq_emod_of_nonneg (by omega)]
    omega
  rw [e1, e2]
  unfold Crc.step
  by_cases h : r % 2 = 1
  · rw [if_pos (by omega), if_pos h]
    have := Crc.xor32 (a := r / 2) (b := 2197175160) (by omega) (by decide)
    rw [show ((2197175160 : Nat) : Int) = 2197175160 from rfl] at this
    rw [this]
  · rw [if_neg (by omega), if_neg h, Nat.xor_zero]
theorem aquiferref01_take.val (k : Nat) {r x : Nat} (hr : r < 4294967296) (hx : x < 256) : aquiferref01_take.f (k + 9) (r : Int) (x : Int) = some ((Crc.z (r ^^^ x) : Nat) : Int) := by
  unfold aquiferref01_take.f
  have e : (x : Int) % 4294967296 = (x : Int) := by omega
  rw [e, Crc.xor32 hr (by omega)]
  have hq : r ^^^ x < 4294967296 := Crc.xor_lt hr (by omega)
  generalize r ^^^ x = q at hq
  have h0 : (0 : Int) = ((0 : Nat) : Int) := rfl
  rw [h0]
  have h1 := Crc.step_lt hq
  have h2 := Crc.step_lt h1
  have h3 := Crc.step_lt h2
  have h4 := Crc.step_lt h3
  have h5 := Crc.step_lt h4
  have h6 := Crc.step_lt h5
  have h7 := Crc.step_lt h6
  rw [aquiferref01_take.round _ hq (by decide), aquiferref01_take.round _ h1 (by decide), aquiferref01_take.round _ h2 (by decide), aquiferref01_take.round _ h3 (by decide), aquiferref01_take.round _ h4 (by decide), aquiferref01_take.round _ h5 (by decide), aquiferref01_take.round _ h6 (by decide), aquiferref01_take.round _ h7 (by decide)]
  rw [aquiferref01_take.l0, if_neg (by decide)]
  rfl
theorem aquiferref01_Update.val0 (l : List Nat) (hl : Crc.By l) (hlen : l.length < 9223372036854775807) : ∀ (k i r : Nat), r < 4294967296 → i ≤ l.length → l.length - i + 10 ≤ k →
    aquiferref01_Update.l0 k (Crc.ints l) (r : Int) (i : Int) = some ((4294967295 ^^^ Crc.feed r (l.drop i) : Nat) : Int)
  | 0, _, _, _, _, h => by omega
  | k + 1, i, r, hr, hi, hk => by
    rw [aquiferref01_Update.l0, Crc.ints_length]
    by_cases h : i < l.length
    · rw [if_pos (by omega), if_pos (by omega), Crc.ints_rd]
      obtain ⟨k', rfl⟩ : ∃ k', k = k' + 9 := ⟨k - 9, by omega⟩
      rw [aquiferref01_take.val k' hr (hl.get i), Option.bind_some, Crc.wrap_succ (by omega)]
      rw [aquiferref01_Update.val0 l hl hlen (k' + 9) (i + 1) _ (Crc.z_lt (Crc.xor_lt hr (by have := hl.get i; omega))) (by omega) (by omega)]
      rw [List.drop_eq_getElem_cons h, Crc.feed_cons, List.getD_eq_getElem?_getD, List.getElem?_eq_getElem h]
      rfl
    · obtain rfl : i = l.length := by omega
      rw [if_neg (by omega), List.drop_length, Crc.feed_nil]
      have := Crc.xor32 (b := 4294967295) hr (by decide)
      rw [show ((4294967295 : Nat) : Int) = 4294967295 from rfl] at this
      rw [this, Nat.xor_comm]
theorem aquiferref01_Sum.val {l : List Nat} (hl : Crc.By l) (hlen : l.length < 1000) : aquiferref01_Sum.f 1010 (Crc.ints l) = some ((Crc.upd 0 l : Nat) : Int) := by
  unfold aquiferref01_Sum.f aquiferref01_Update.f
  have := Crc.xor32 (a := 0) (b := 4294967295) (by decide) (by decide)
  rw [show ((4294967295 : Nat) : Int) = 4294967295 from rfl, show ((0 : Nat) : Int) = 0 from rfl] at this
  rw [this]
  have h := aquiferref01_Update.val0 l hl (by omega) 1010 0 (0 ^^^ 4294967295) (Crc.xor_lt (by decide) (by decide)) (by omega) (by omega)
  rw [List.drop_zero] at h
  rw [show ((0 : Nat) : Int) = 0 from rfl] at h
  rw [h]
  rfl
/-- The reference's sum of a string that is turned to bytes. -/
theorem aquiferref09_Seal.sum (w : World) (s : ByteArray) (hs : s.size < 1000) (c : Nat) (hv : Crc.upd 0 (Page.nb s) = c) :
    Calls Tryd.prog 17 #[.slice (some ⟨w.heap.size, 0, none⟩) s.size (grownCap w s.size 0 5)] (Lib.bytesWorld w 5 s) fun e w' => e = .returned (.int .u32 (c : Int)) ∧ ∃ n, w' = (Lib.bytesWorld w 5 s).drewN n := by
  have hl : (Crc.ints (Page.nb s)).length = s.size := by rw [Crc.ints_length, Page.nb_length]
  have hr0 := Page.conv_reads w s (by omega)
  have hr : Kd.C (Kd.int .u8) (Lib.bytesWorld w 5 s) (some ⟨w.heap.size, 0, none⟩) (Crc.ints (Page.nb s)).length (Crc.ints (Page.nb s)) := by
    rw [hl]
    exact Kd.C_of_reads (enc := Value.int .u8) (d := (0 : Int)) (h1 := fun _ => rfl) hr0
  have h := aquiferref01_Sum.calls 1010 (some ⟨w.heap.size, 0, none⟩) (grownCap w s.size 0 5) (Crc.ints (Page.nb s)) ((Crc.upd 0 (Page.nb s) : Nat) : Int) _ hr (by rw [hl]; exact grownCap_ge w s.size 0 5) (aquiferref01_Sum.val (Page.nb_by s) (by rw [Page.nb_length]; exact hs))
  rw [hl, hv] at h
  exact h.mono fun e w' ⟨he, hd⟩ => ⟨he, hd.out⟩
def aquiferref09_Seal.f (a0 : Int) (a1 : Int) (a2 : ByteArray) : Option (ByteArray × Int) :=
  if a0 < 0 ∨ 2147483648 ≤ a0 ∨ a1 < 1 ∨ 255 < a1 then some (⟨#[]⟩, 2) else if 500 < a2.size then some (⟨#[]⟩, 3)
  else some (Page.str (Page.sealed a0.toNat a1.toNat (Page.nb a2)), 0)
set_option maxHeartbeats 4000000 in
set_option maxRecDepth 100000 in
theorem aquiferref09_Seal.walk (id kind : Nat) (s p4 p1 p2 : ByteArray) (L : List Nat) (w : World) (k0 : decide ((id : Int) < 0) = false) (k1 : decide ((2147483647 : Int) < (id : Int)) = false)
    (k2 : decide ((kind : Int) < 1) = false) (k3 : decide ((255 : Int) < (kind : Int)) = false) (k4 : decide ((500 : Int) < (s.size : Int)) = false) (hs : s.size ≤ 500)
    (H4 : Aside0 (aquiferref09_put.f 5 (id : Int) 4 = some p4)) (H1 : Aside0 (aquiferref09_put.f 2 (kind : Int) 1 = some p1)) (H2 : Aside0 (aquiferref09_put.f 3 (s.size : Int) 2 = some p2))
    (z4 : p4.size = 4) (z1 : p1.size = 1) (z2 : p2.size = 2) (HP : Aside0 (p4 ++ p1 ++ ⟨#[0]⟩ ++ p2 ++ s = Page.str L)) (HL : Aside0 (L.length = 8 + s.size)) (HB : Aside0 (Crc.By L))
    (r : ByteArray) (HR : Aside0 (Page.str (L ++ List.replicate (508 - L.length) 0 ++ Page.le4 (Crc.upd 0 (L ++ List.replicate (508 - L.length) 0))) = r)) :
    Calls Tryd.prog 33 #[.int .i64 id, .int .i64 kind, .string s] w fun e w' => e = .returned (.tuple #[.string r, .int .i64 0]) ∧ Below w.heap.size w w' := by
  go_enter Tryd.func33, Tryd.ntmps33
  go_wp2_with (first
    | (go_at_call 42; with_reducible refine (aquiferref09_put.calls _ _ _ _ _ H4.out).mono ?_; rintro e w1 ⟨rfl, hb1⟩)
    | (go_at_call 42; with_reducible refine (aquiferref09_put.calls _ _ _ _ _ H1.out).mono ?_; rintro e w2 ⟨rfl, hb2⟩)
    | (go_at_call 42; with_reducible refine (aquiferref09_put.calls _ _ _ _ _ H2.out).mono ?_; rintro e w3 ⟨rfl, hb3⟩))
  rw [HP.out]
  have HB3 := Aside0.mk (below_then (below_then hb1 hb1.size hb2) (below_then hb1 hb1.size hb2).size hb3)
  clear hb1 hb2 hb3
  go_loopw [8] (fun v8 wr => ∃ (x : ByteArray) (j : Nat), v8 = .string x ∧ Aside0 (x = Page.str (L ++ List.replicate j 0)) ∧ Aside0 (x.size = 8 + s.size + j) ∧ x.size ≤ 508 ∧ Aside0 (Below w.heap.size w wr)) (fun v8 _ => match v8 with | .string x => 508 - x.size | _ => 0)
  case atStart =>
    refine ⟨_, 0, rfl, ⟨by simp⟩, ⟨?_⟩, ?_, HB3⟩
    · rw [Page.str_size, HL.out]; rfl
    · rw [Page.str_size, HL.out]; omega
  case round =>
    obtain ⟨x, j, rfl, HX, HJ, hx, HW⟩ := hrel
    clear HB3
    by_cases hlt : x.size < 508
    · go_wp2
      go_roundw
      case rel =>
        refine ⟨x ++ ⟨#[0]⟩, j + 1, rfl, ⟨?_⟩, ⟨?_⟩, ?_, HW⟩
        · rw [HX.out, List.replicate_succ', ← List.append_assoc, Page.str_append _ [0]]
          rfl
        · rw [ByteArray.size_append, HJ.out]
          rfl
        · rw [ByteArray.size_append]
          show x.size + 1 ≤ 508
          omega
      case measure =>
        simp [ByteArray.size_append]
        show 508 - (x.size + 1) < 508 - x.size
        omega
    · have hj : j = 508 - L.length := by have := HL.out; have := HJ.out; omega
      have hXe := HX.out
      rw [hj] at hXe
      have hnb : Page.nb x = L ++ List.replicate (508 - L.length) 0 := by
        rw [hXe]
        exact Page.nb_str (fun y hy => by
          rcases List.mem_append.1 hy with h | h
          · exact HB.out y h
          · rw [(List.mem_replicate.1 h).2]; decide)
      obtain ⟨c, hc⟩ : ∃ c, Crc.upd 0 (Page.nb x) = c := ⟨_, rfl⟩
      have hcl : c < 4294967296 := by rw [← hc]; exact Crc.upd_lt' (by decide) (Page.nb_by x)
      have hq := aquiferref09_put.four c (by omega)
      obtain ⟨q, hqe⟩ : ∃ q, Page.str (Page.le4 c) = q := ⟨_, rfl⟩
      rw [hqe] at hq
      have hqs : q.size = 4 := by rw [← hqe, Page.str_size]; rfl
      have hr : x ++ q = r := by
        rw [← HR.out, ← hnb, hc, Page.str_append, hqe, Page.str_nb]
      have HC := Aside0.mk hc
      have HQ := Aside0.mk hq
      have HRR := Aside0.mk hr
      have HX5 := Aside0.mk (show x.size < 1000 by omega)
      have wc : wrap64 (c : Int) = (c : Int) := by unfold wrap64; omega
      have kc := fun (w : World) (t : ByteArray) => Lib.run_convert_string_bytes (P := Tryd.prog) w 9 23 5 t Tryd.underlying9 Tryd.underlying23 Tryd.underlying5
      have HW5 := Aside0.mk (fun n => pw_below_drewN (below_then HW.out HW.out.size (Page.conv_below wr x)) n)
      clear hc hq hqe hr hXe hnb hj HJ HX HW
      go_wp2_with (first
        | (go_at_call 17; with_reducible refine (aquiferref09_Seal.sum wr x HX5.out c HC.out).mono ?_; rintro e w5 ⟨rfl, n5, rfl⟩)
        | (go_at_call 42; with_reducible refine (aquiferref09_put.calls _ _ _ _ _ HQ.out).mono ?_; rintro e w6 ⟨rfl, hb6⟩))
      go_ret2
      exact ⟨by have hr := HRR.out; subst hr; rfl, below_then (HW5.out _) (HW5.out _).size hb6⟩
theorem aquiferref09_Seal.base (id kind : Nat) (s : ByteArray) : Page.str (Page.le4 id) ++ Page.str [kind] ++ ⟨#[0]⟩ ++ Page.str [s.size % 256, s.size / 256 % 256] ++ s = Page.str (Page.le4 id ++ ([kind, 0, s.size % 256, s.size / 256 % 256] ++ Page.nb s)) := by
  rw [Page.str_append (Page.le4 id), Page.str_append [kind, 0, s.size % 256, s.size / 256 % 256], Page.str_nb, show [kind, 0, s.size % 256, s.size / 256 % 256] = [kind] ++ ([0] ++ [s.size % 256, s.size / 256 % 256]) from rfl, Page.str_append [kind], Page.str_append [0]]
  rw [ByteArray.append_assoc, ByteArray.append_assoc, ByteArray.append_assoc, ByteArray.append_assoc, ByteArray.append_assoc]
  rfl
set_option maxHeartbeats 1000000 in
theorem aquiferref09_Seal.good (id kind : Nat) (hid : id < 2147483648) (hk : 1 ≤ kind) (hk2 : kind ≤ 255) (s : ByteArray) (hs : s.size ≤ 500) (w : World) :
    Calls Tryd.prog 33 #[.int .i64 id, .int .i64 kind, .string s] w fun e w' => e = .returned (.tuple #[.string (Page.str (Page.sealed id kind (Page.nb s))), .int .i64 0]) ∧ Below w.heap.size w w' := by
  have hl : (Page.le4 id ++ ([kind, 0, s.size % 256, s.size / 256 % 256] ++ Page.nb s)).length = 8 + s.size := by
    simp [Page.le4, Page.nb_length]
    omega
  have hpre : Page.le4 id ++ ([kind, 0, s.size % 256, s.size / 256 % 256] ++ Page.nb s) ++ List.replicate (508 - (8 + s.size)) 0 = Page.pre id kind (Page.nb s) := by
    unfold Page.pre
    rw [Page.nb_length, show 508 - (8 + s.size) = 500 - s.size by omega]
    simp [List.append_assoc]
  have hby : Crc.By (Page.le4 id ++ ([kind, 0, s.size % 256, s.size / 256 % 256] ++ Page.nb s)) := fun x hx => Page.pre_by (id := id) (kind := kind) (show kind < 256 by omega) (Page.nb_by s) x (by rw [← hpre]; exact List.mem_append_left _ hx)
  exact aquiferref09_Seal.walk id kind s (Page.str (Page.le4 id)) (Page.str [kind]) (Page.str [s.size % 256, s.size / 256 % 256]) (Page.le4 id ++ ([kind, 0, s.size % 256, s.size / 256 % 256] ++ Page.nb s)) w
    (decide_eq_false (by omega)) (decide_eq_false (by omega)) (decide_eq_false (by omega)) (decide_eq_false (by omega)) (decide_eq_false (by omega)) hs ⟨aquiferref09_put.four id (by omega)⟩ ⟨aquiferref09_put.single kind (by omega)⟩ ⟨aquiferref09_put.two s.size (by omega)⟩
    (by rw [Page.str_size]; rfl) (by rw [Page.str_size]; rfl) (by rw [Page.str_size]; rfl) ⟨aquiferref09_Seal.base id kind s⟩ ⟨hl⟩ ⟨hby⟩ _ ⟨by rw [hl, hpre]; rfl⟩
set_option maxHeartbeats 4000000 in
set_option maxRecDepth 100000 in
theorem aquiferref09_Seal.calls (a0 : Int) (a1 : Int) (a2 : ByteArray) (r1 : ByteArray) (r2 : Int) (w : World) (h : aquiferref09_Seal.f a0 a1 a2 = some (r1, r2)) :
    Calls Tryd.prog 33 #[.int .i64 a0, .int .i64 a1, .string a2] w fun e w' => e = .returned (.tuple #[.string r1, .int .i64 r2]) ∧ Below w.heap.size w w' := by
  unfold aquiferref09_Seal.f at h
  by_cases c0 : a0 < 0
  · rw [if_pos (by omega)] at h
    obtain ⟨rfl, rfl⟩ := Prod.mk.inj (Option.some.inj h)
    have k0 : decide (a0 < 0) = true := decide_eq_true c0
    clear h c0
    go_enter Tryd.func33, Tryd.ntmps33
    go_wp2
    go_ret2
    exact ⟨rfl, by repeat (first | exact Below.refl _ _ | apply pw_below_drewN)⟩
  have k0 : decide (a0 < 0) = false := decide_eq_false c0
  by_cases c1 : 2147483647 < a0
  · rw [if_pos (by omega)] at h
    obtain ⟨rfl, rfl⟩ := Prod.mk.inj (Option.some.inj h)
    have k1 : decide (2147483647 < a0) = true := decide_eq_true c1
    clear h c0 c1
    go_enter Tryd.func33, Tryd.ntmps33
    go_wp2
    go_ret2
    exact ⟨rfl, by repeat (first | exact Below.refl _ _ | apply pw_below_drewN)⟩
  have k1 : decide (2147483647 < a0) = false := decide_eq_false c1
  by_cases c2 : a1 < 1
  · rw [if_pos (by omega)] at h
    obtain ⟨rfl, rfl⟩ := Prod.mk.inj (Option.some.inj h)
    have k2 : decide (a1 < 1) = true := decide_eq_true c2
    clear h c0 c1 c2
    go_enter Tryd.func33, Tryd.ntmps33
    go_wp2
    go_ret2
    exact ⟨rfl, by repeat (first | exact Below.refl _ _ | apply pw_below_drewN)⟩
  have k2 : decide (a1 < 1) = false := decide_eq_false c2
  by_cases c3 : 255 < a1
  · rw [if_pos (by omega)] at h
    obtain ⟨rfl, rfl⟩ := Prod.mk.inj (Option.some.inj h)
    have k3 : decide (255 < a1) = true := decide_eq_true c3
    clear h c0 c1 c2 c3
    go_enter Tryd.func33, Tryd.ntmps33
    go_wp2
    go_ret2
    exact ⟨rfl, by repeat (first | exact Below.refl _ _ | apply pw_below_drewN)⟩
  have k3 : decide (255 < a1) = false := decide_eq_false c3
  rw [if_neg (by omega)] at h
  by_cases c4 : 500 < a2.size
  · rw [if_pos c4] at h
    obtain ⟨rfl, rfl⟩ := Prod.mk.inj (Option.some.inj h)
    have k4 : decide ((500 : Int) < (a2.size : Int)) = true := decide_eq_true (by omega)
    clear h c0 c1 c2 c3 c4
    go_enter Tryd.func33, Tryd.ntmps33
    go_wp2
    go_ret2
    exact ⟨rfl, by repeat (first | exact Below.refl _ _ | apply pw_below_drewN)⟩
  rw [if_neg c4] at h
  obtain ⟨rfl, rfl⟩ := Prod.mk.inj (Option.some.inj h)
  obtain ⟨id, rfl⟩ := Int.eq_ofNat_of_zero_le (show 0 ≤ a0 by omega)
  obtain ⟨kind, rfl⟩ := Int.eq_ofNat_of_zero_le (show 0 ≤ a1 by omega)
  exact aquiferref09_Seal.good id kind (by omega) (by omega) (by omega) a2 (by omega) w


end Go.Proofs.YthkcnkhhaiapfaaDoor.PPageAll
