/- What the sum's arithmetic answers: the remainder is linear, the array's squares are its rounds, and a burst is seen. In plain numbers, no program in sight. -/
import Derived.Test.YthkcnkhhaiapfaaDoorCrc
namespace Go.Proofs.YthkcnkhhaiapfaaDoor.Crc
/-- One round of the register, a bit at a time. -/
def step (r : Nat) : Nat := r / 2 ^^^ (if r % 2 = 1 then 2197175160 else 0)
def z (r : Nat) : Nat := step (step (step (step (step (step (step (step r)))))))
def it (f : Nat → Nat) : Nat → Nat → Nat
  | 0, r => r
  | n + 1, r => it f n (f r)
structure Lin (f : Nat → Nat) : Prop where
  zero : f 0 = 0
  add : ∀ x y, f (x ^^^ y) = f x ^^^ f y
theorem Lin.comp {f g : Nat → Nat} (hf : Lin f) (hg : Lin g) : Lin fun r => f (g r) := ⟨by rw [hg.zero, hf.zero], fun x y => by rw [hg.add, hf.add]⟩
theorem xor_self_cancel (a b : Nat) : a ^^^ (a ^^^ b) = b := by rw [← Nat.xor_assoc, Nat.xor_self, Nat.zero_xor]
theorem xor_swap (a b c d : Nat) : (a ^^^ b) ^^^ (c ^^^ d) = (a ^^^ c) ^^^ (b ^^^ d) := by
  rw [Nat.xor_assoc, Nat.xor_assoc, ← Nat.xor_assoc b, ← Nat.xor_assoc c, Nat.xor_comm b c]
theorem xor_zero_eq {a b : Nat} (h : a ^^^ b = 0) : a = b := by
  have := xor_self_cancel a b
  rw [h, Nat.xor_zero] at this
  exact this
theorem mod2_xor (x y : Nat) : (x ^^^ y) % 2 = x % 2 ^^^ y % 2 := by
  have := @Nat.xor_mod_two_pow x y 1
  simpa using this
theorem step_lin : Lin step := by
  refine ⟨rfl, fun x y => ?_⟩
  unfold step
  rw [Nat.xor_div_two, mod2_xor]
  rcases Nat.mod_two_eq_zero_or_one x with hx | hx <;> rcases Nat.mod_two_eq_zero_or_one y with hy | hy <;> rw [hx, hy] <;> simp
  · rw [Nat.xor_assoc]
  · rw [Nat.xor_assoc, Nat.xor_assoc, Nat.xor_comm (y / 2)]
  · rw [xor_swap, Nat.xor_self, Nat.xor_zero]
theorem z_lin : Lin z := step_lin.comp (step_lin.comp (step_lin.comp (step_lin.comp (step_lin.comp (step_lin.comp (step_lin.comp step_lin))))))
theorem it_lin {f : Nat → Nat} (h : Lin f) : ∀ n, Lin (it f n)
  | 0 => ⟨rfl, fun _ _ => rfl⟩
  | n + 1 => (it_lin h n).comp h
theorem step_two (m : Nat) : step (2 * m) = m := by
  unfold step
  rw [Nat.mul_div_cancel_left _ (by decide), if_neg (by omega), Nat.xor_zero]
theorem split_xor (k a b : Nat) (h : b < 2 ^ k) : 2 ^ k * a + b = 2 ^ k * a ^^^ b := by
  apply Nat.eq_of_testBit_eq
  intro i
  rw [Nat.testBit_two_pow_mul_add _ h, Nat.testBit_xor, Nat.testBit_two_pow_mul]
  by_cases hi : i < k
  · rw [if_pos hi]
    simp [Nat.not_le.2 hi]
  · rw [if_neg hi]
    have : b.testBit i = false := Nat.testBit_lt_two_pow (Nat.lt_of_lt_of_le h (Nat.pow_le_pow_right (by decide) (Nat.not_lt.1 hi)))
    rw [this]
    simp [Nat.not_lt.1 hi]
theorem pow_xor (k a b : Nat) : 2 ^ k * (a ^^^ b) = 2 ^ k * a ^^^ 2 ^ k * b := by
  apply Nat.eq_of_testBit_eq
  intro i
  rw [Nat.testBit_xor, Nat.testBit_two_pow_mul, Nat.testBit_two_pow_mul, Nat.testBit_two_pow_mul, Nat.testBit_xor]
  by_cases hi : i ≥ k <;> simp [hi]
theorem nib_step (r : Nat) : nib r = step (step (step (step r))) := by
  have h4 := step_lin.comp (step_lin.comp (step_lin.comp step_lin))
  have e : r = 2 ^ 4 * (r / 16) ^^^ r % 16 := by rw [← split_xor 4 _ _ (Nat.mod_lt _ (by decide))]; omega
  have e2 := h4.add (2 ^ 4 * (r / 16)) (r % 16)
  rw [← e] at e2
  rw [e2]
  have e3 : step (step (step (step (2 ^ 4 * (r / 16))))) = r / 16 := by
    rw [show 2 ^ 4 * (r / 16) = 2 * (2 * (2 * (2 * (r / 16)))) by omega, step_two, step_two, step_two, step_two]
  have e4 : step (step (step (step (r % 16)))) = half (r % 16) := by
    have : ∀ j : Fin 16, step (step (step (step j.val))) = half j.val := by decide +kernel
    exact this ⟨r % 16, Nat.mod_lt _ (by decide)⟩
  rw [e3, e4]
  rfl
theorem byte_z (r x : Nat) : byte r x = z (r ^^^ x) := by
  unfold byte z
  rw [nib_step, nib_step]

/-! ### arrays -/
theorem bit_xor (r n : Nat) : r % 2 ^ (n + 1) = r % 2 ^ n ^^^ (if r / 2 ^ n % 2 = 1 then 2 ^ n else 0) := by
  rw [Nat.mod_pow_succ, Nat.add_comm]
  rcases Nat.mod_two_eq_zero_or_one (r / 2 ^ n) with h | h
  · rw [h]; simp
  · rw [h, if_pos rfl, split_xor _ _ _ (Nat.mod_lt _ (Nat.two_pow_pos n)), Nat.mul_one, Nat.xor_comm]
def Rep (m : List Nat) (f : Nat → Nat) : Prop := ∀ i, i < 32 → m.getD i 0 = f (2 ^ i)
theorem tms_rep {m : List Nat} {f : Nat → Nat} (hm : Rep m f) (hf : Lin f) (r : Nat) : ∀ n, n ≤ 32 → tms m r n = f (r % 2 ^ n)
  | 0, _ => by rw [tms, Nat.pow_zero, Nat.mod_one, hf.zero]
  | n + 1, h => by
    rw [tms, tms_rep hm hf r n (by omega), bit_xor, hf.add, hm n (by omega)]
    split
    · rfl
    · rw [hf.zero]
theorem tms32 {m : List Nat} {f : Nat → Nat} (hm : Rep m f) (hf : Lin f) {r : Nat} (hr : r < 4294967296) : tms m r 32 = f r := by
  rw [tms_rep hm hf r 32 (Nat.le_refl _), Nat.mod_eq_of_lt hr]
theorem twc_rep {m : List Nat} {f : Nat → Nat} (hm : Rep m f) (hf : Lin f) (ho : Ok m) : Rep (twc m) (fun r => f (f r)) := by
  intro i hi
  unfold twc
  rw [List.getD_eq_getElem?_getD, List.getElem?_map, List.getElem?_range hi]
  show tms m (m.getD i 0) 32 = _
  rw [tms32 hm hf (ho.lt i), hm i hi]
theorem one_rep : Rep one step := by
  intro i hi
  have : ∀ j : Fin 32, one.getD j.val 0 = step (2 ^ j.val) := by decide +kernel
  exact this ⟨i, hi⟩
theorem eight_rep : Rep eight z :=
  twc_rep (twc_rep (twc_rep one_rep step_lin one_ok) (step_lin.comp step_lin) (twc_ok one_ok)) ((step_lin.comp step_lin).comp (step_lin.comp step_lin)) (twc_ok (twc_ok one_ok))
theorem it_twice (f : Nat → Nat) : ∀ n r, it (fun r => f (f r)) n r = it f (2 * n) r
  | 0, _ => rfl
  | n + 1, r => by
    rw [show 2 * (n + 1) = 2 * n + 1 + 1 by omega, it, it, it, it_twice f n]
theorem it_add (f : Nat → Nat) : ∀ a b r, it f (a + b) r = it f b (it f a r)
  | 0, b, r => by rw [Nat.zero_add, it]
  | a + 1, b, r => by rw [show a + 1 + b = a + b + 1 by omega, it, it, it_add f a b]
theorem shf_it : ∀ (k : Nat) {m : List Nat} {f : Nat → Nat} (_ : Rep m f) (_ : Lin f) (_ : Ok m) {r : Nat} (_ : r < 4294967296) (n : Nat), n < 2 ^ k → shf k m r n = it f n r
  | 0, _, _, _, _, _, _, _, n, hn => by
    obtain rfl : n = 0 := by simpa using hn
    rfl
  | k + 1, m, f, hm, hf, ho, r, hr, n, hn => by
    rw [shf]
    split
    · next h => rw [h, it]
    · next h =>
      have hlt : (if n % 2 = 1 then tms m r 32 else r) < 4294967296 := by
        split
        · exact tms_lt ho _ _
        · exact hr
      rw [shf_it k (twc_rep hm hf ho) (hf.comp hf) (twc_ok ho) hlt (n / 2) (by rw [Nat.pow_succ] at hn; omega), it_twice]
      split
      · next h1 =>
        rw [tms32 hm hf hr, show n = 2 * (n / 2) + 1 by omega, it]
        rw [show (2 * (n / 2) + 1) / 2 = n / 2 by omega]
      · next h1 => rw [show 2 * (n / 2) = n by omega]
theorem shift_it {r : Nat} (hr : r < 4294967296) {n : Nat} (hn : n ≤ 1048576) : shift r n = it z n r := shf_it 64 eight_rep z_lin eight_ok hr n (by omega)

/-! ### the sum -/
theorem feed_nil (r : Nat) : feed r [] = r := rfl
theorem feed_cons (r x : Nat) (l : List Nat) : feed r (x :: l) = feed (z (r ^^^ x)) l := by
  rw [← byte_z]
  rfl
theorem feed_append (r : Nat) (a b : List Nat) : feed r (a ++ b) = feed (feed r a) b := by
  unfold feed
  rw [List.foldl_append]
theorem feed_zeros : ∀ (n r : Nat), feed r (List.replicate n 0) = it z n r
  | 0, _ => rfl
  | n + 1, r => by rw [List.replicate_succ, feed_cons, Nat.xor_zero, it, feed_zeros n]
theorem feed_xor : ∀ (l : List Nat) (r q : Nat), feed (r ^^^ q) l = feed r l ^^^ it z l.length q
  | [], _, _ => rfl
  | x :: l, r, q => by
    rw [feed_cons, feed_cons, List.length_cons, it, ← feed_xor l, ← z_lin.add]
    congr 2
    rw [Nat.xor_assoc, Nat.xor_assoc, Nat.xor_comm q x]
theorem feed_zip : ∀ (a b : List Nat) (r q : Nat), a.length = b.length → feed (r ^^^ q) (List.zipWith (· ^^^ ·) a b) = feed r a ^^^ feed q b
  | [], [], _, _, _ => rfl
  | [], _ :: _, _, _, h => by cases h
  | _ :: _, [], _, _, h => by cases h
  | x :: a, y :: b, r, q, h => by
    rw [List.zipWith_cons_cons, feed_cons, feed_cons, feed_cons, ← feed_zip a b _ _ (by simpa using h), ← z_lin.add, xor_swap]
theorem upd_append (s : Nat) (a b : List Nat) : upd s (a ++ b) = upd (upd s a) b := by
  unfold upd
  rw [feed_append, xor_self_cancel]
theorem upd_combine (s : Nat) (b : List Nat) : upd s b = it z b.length s ^^^ upd 0 b := by
  unfold upd
  rw [feed_xor, Nat.xor_zero, ← Nat.xor_assoc, Nat.xor_comm]
theorem upd_zeros (n : Nat) : upd 0 (List.replicate n 0) = 4294967295 ^^^ it z n 4294967295 := by
  unfold upd
  rw [feed_zeros, Nat.xor_zero]
theorem upd_zip3 (a b c : List Nat) (h1 : a.length = b.length) (h2 : a.length = c.length) :
    upd 0 (List.zipWith (· ^^^ ·) (List.zipWith (· ^^^ ·) a b) c) = (upd 0 a ^^^ upd 0 b) ^^^ upd 0 c := by
  unfold upd
  have e := feed_zip (List.zipWith (· ^^^ ·) a b) c (4294967295 ^^^ 4294967295) 4294967295 (by simp [← h1, ← h2])
  rw [feed_zip a b _ _ h1, show (4294967295 ^^^ 4294967295) ^^^ 4294967295 = 4294967295 by decide] at e
  rw [Nat.xor_zero, e]
  generalize feed 4294967295 a = x, feed 4294967295 b = y, feed 4294967295 c = w
  rw [xor_swap 4294967295 x, Nat.xor_self, Nat.zero_xor, ← Nat.xor_assoc, Nat.xor_comm 4294967295, Nat.xor_assoc]

/-! ### a burst -/
/-- A text's bits as one number, the first byte lowest. -/
def val : List Nat → Nat
  | [] => 0
  | x :: l => x ^^^ 2 ^ 8 * val l
theorem z_high (v : Nat) : z (2 ^ 8 * v) = v := by
  unfold z
  rw [show 2 ^ 8 * v = 2 * (2 * (2 * (2 * (2 * (2 * (2 * (2 * v))))))) by omega]
  rw [step_two, step_two, step_two, step_two, step_two, step_two, step_two, step_two]
theorem feed_val : ∀ (l : List Nat) (r : Nat), feed r l = it z l.length (r ^^^ val l)
  | [], r => by rw [val, Nat.xor_zero]; rfl
  | x :: l, r => by
    rw [feed_cons, feed_val l, List.length_cons, it, val, ← Nat.xor_assoc, z_lin.add (r ^^^ x), z_high]
theorem it_z_step : ∀ (n r : Nat), it z n r = it step (8 * n) r
  | 0, _ => rfl
  | n + 1, r => by
    rw [it, it_z_step n, show 8 * (n + 1) = 8 * n + 1 + 1 + 1 + 1 + 1 + 1 + 1 + 1 by omega]
    rfl
theorem step_pow : ∀ (p c : Nat), it step p (2 ^ p * c) = c
  | 0, c => by rw [it]; simp
  | p + 1, c => by rw [it, show 2 ^ (p + 1) * c = 2 * (2 ^ p * c) by rw [Nat.pow_succ, Nat.mul_comm (2 ^ p) 2, Nat.mul_assoc], step_two, step_pow p]
theorem step_lt {c : Nat} (h : c < 4294967296) : step c < 4294967296 := by
  unfold step
  split
  · exact xor_lt (by omega) (by decide)
  · exact xor_lt (by omega) (by decide)
theorem step_inj {c : Nat} (h : c < 4294967296) (h0 : step c = 0) : c = 0 := by
  unfold step at h0
  have e := xor_zero_eq h0
  split at e <;> omega
theorem it_inj : ∀ (n : Nat) {c : Nat} (_ : c < 4294967296), it step n c = 0 → c = 0
  | 0, _, _, h0 => h0
  | n + 1, _, h, h0 => step_inj h (it_inj n (step_lt h) h0)
theorem burst {n p c : Nat} (hc : c < 4294967296) (hp : p ≤ 8 * n) (h : it z n (2 ^ p * c) = 0) : c = 0 := by
  rw [it_z_step, show 8 * n = p + (8 * n - p) by omega, it_add, step_pow] at h
  exact it_inj _ hc h
theorem upd_burst {a b : List Nat} {p c : Nat} (hl : a.length = b.length) (hv : val a = val b ^^^ 2 ^ p * c) (hc : c < 4294967296) (hp : p ≤ 8 * b.length) : upd 0 a = upd 0 b ↔ c = 0 := by
  constructor
  · intro h
    unfold upd at h
    have h1 : feed 4294967295 a = feed 4294967295 b := by
      have := congrArg (fun v => 4294967295 ^^^ v) h
      simpa only [xor_self_cancel, Nat.xor_zero] using this
    rw [feed_val, feed_val, hl, hv, ← Nat.xor_assoc, (it_lin z_lin _).add] at h1
    refine burst hc hp (n := b.length) ?_
    have := congrArg (fun v => it z b.length (4294967295 ^^^ val b) ^^^ v) h1
    simpa only [xor_self_cancel, Nat.xor_self] using this
  · rintro rfl
    unfold upd
    rw [feed_val, feed_val, hl, hv, Nat.mul_zero, Nat.xor_zero, Nat.xor_zero]
theorem val_set : ∀ (l : List Nat) (j b : Nat), j < l.length → val (l.set j (l.getD j 0 ^^^ 2 ^ b)) = val l ^^^ 2 ^ (8 * j + b)
  | [], _, _, h => by cases h
  | x :: l, 0, b, _ => by
    simp only [List.set_cons_zero, List.getD_cons_zero, val, Nat.mul_zero, Nat.zero_add]
    rw [Nat.xor_assoc, Nat.xor_assoc, Nat.xor_comm (2 ^ b)]
  | x :: l, j + 1, b, h => by
    simp only [List.set_cons_succ, List.getD_cons_succ, val]
    rw [val_set l j b (by simpa using h), pow_xor, ← Nat.pow_add, Nat.xor_assoc, show 8 + (8 * j + b) = 8 * (j + 1) + b by omega]
end Go.Proofs.YthkcnkhhaiapfaaDoor.Crc
