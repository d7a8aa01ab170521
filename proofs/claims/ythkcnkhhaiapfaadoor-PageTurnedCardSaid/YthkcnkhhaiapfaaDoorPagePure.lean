/- The plain law of a page: what is sealed is opened as it was, by its own number alone; the chapter's example. -/
import Derived.Test.YthkcnkhhaiapfaaDoorPPageAllx30
namespace Go.Proofs.YthkcnkhhaiapfaaDoor.Page
open Go Go.RowKit Go.Proofs.YthkcnkhhaiapfaaDoorW.PrintWords Go.Proofs.YthkcnkhhaiapfaaDoor.PPageAll
theorem sealed_take (id kind : Nat) (body : List Nat) (h : body.length ≤ 500) : (sealed id kind body).take 508 = pre id kind body := by
  unfold sealed
  rw [List.take_append_of_le_length (by rw [pre_length _ _ _ h]; exact Nat.le_refl _), List.take_of_length_le (by rw [pre_length _ _ _ h]; exact Nat.le_refl _)]
theorem sealed_drop (id kind : Nat) (body : List Nat) (h : body.length ≤ 500) : (sealed id kind body).drop 508 = le4 (Crc.upd 0 (pre id kind body)) := by
  unfold sealed
  rw [List.drop_append_of_le_length (by rw [pre_length _ _ _ h]; exact Nat.le_refl _), List.drop_of_length_le (by rw [pre_length _ _ _ h]; exact Nat.le_refl _)]
  rfl
theorem sealed_num (id kind : Nat) (body : List Nat) (hid : id < 4294967296) : num4 (sealed id kind body) = id := num4_le4 hid
theorem sealed_kind (id kind : Nat) (body : List Nat) : (sealed id kind body).getD 4 0 = kind := rfl
theorem sealed_gap (id kind : Nat) (body : List Nat) : (sealed id kind body).getD 5 0 = 0 := rfl
theorem sealed_len (id kind : Nat) (body : List Nat) (h : body.length ≤ 500) : olen (sealed id kind body) = body.length := by
  show body.length % 256 + 256 * (body.length / 256 % 256) = body.length
  omega
theorem sealed_body (id kind : Nat) (body : List Nat) : ((sealed id kind body).drop 8).take body.length = body := by
  have e : (sealed id kind body).drop 8 = body ++ (List.replicate (500 - body.length) 0 ++ le4 (Crc.upd 0 (pre id kind body))) := by
    unfold sealed
    generalize hc : Crc.upd 0 (pre id kind body) = c
    clear hc
    show (body ++ List.replicate (500 - body.length) 0) ++ le4 c = _
    rw [List.append_assoc]
  rw [e, List.take_append_of_le_length (Nat.le_refl _), List.take_length]
theorem sealed_rest (id kind : Nat) (body : List Nat) (h : body.length ≤ 500) : ∀ x ∈ ((sealed id kind body).take 508).drop (8 + body.length), x = 0 := by
  rw [sealed_take _ _ _ h, ← List.drop_drop]
  show ∀ x ∈ (body ++ List.replicate (500 - body.length) 0).drop body.length, x = 0
  rw [List.drop_left]
  intro x hx
  exact (List.mem_replicate.1 hx).2
theorem page_size {id kind : Nat} {s : ByteArray} (hs : s.size ≤ 500) : (str (sealed id kind (nb s))).size = 512 := by rw [str_size, sealed_length _ _ _ (by rw [nb_length]; exact hs)]
theorem page_nb {id kind : Nat} {s : ByteArray} (hk2 : kind < 256) : nb (str (sealed id kind (nb s))) = sealed id kind (nb s) := nb_str (sealed_by hk2 (nb_by s))
theorem page_sum {id kind : Nat} {s : ByteArray} (hk2 : kind < 256) (hs : s.size ≤ 500) : Crc.upd 0 ((nb (str (sealed id kind (nb s)))).take 508) = num4 ((nb (str (sealed id kind (nb s)))).drop 508) := by
  rw [page_nb hk2, sealed_take _ _ _ (by rw [nb_length]; exact hs), sealed_drop _ _ _ (by rw [nb_length]; exact hs), num4_le4 (Crc.upd_lt' (by decide) (pre_by hk2 (nb_by s)))]
theorem opened_own {id kind : Nat} {s : ByteArray} (hk : 1 ≤ kind) (hk2 : kind < 256) (hs : s.size ≤ 500) (hid : id < 2147483648) : opened (id : Int) (str (sealed id kind (nb s))) = some ((kind : Int), s, 0) := by
  unfold opened
  have hb : ¬ obad (id : Int) (nb (str (sealed id kind (nb s)))) := by
    rw [page_nb hk2]
    unfold obad
    rw [sealed_num _ _ _ (by omega), sealed_kind, sealed_gap, sealed_len _ _ _ (by rw [nb_length]; exact hs)]
    rintro (h | h | h | h | h | h | h)
    · omega
    · omega
    · exact h rfl
    · omega
    · exact h rfl
    · rw [nb_length] at h
      omega
    · exact h (sealed_rest _ _ _ (by rw [nb_length]; exact hs))
  rw [if_neg (not_not_intro (page_size hs)), if_neg (not_not_intro (page_sum hk2 hs)), if_neg hb, page_nb hk2, sealed_kind, sealed_len _ _ _ (by rw [nb_length]; exact hs)]
  have : (str (sealed id kind (nb s))).extract 8 (8 + (nb s).length) = s := by
    apply nb_inj
    rw [nb_extract, page_nb hk2, Nat.add_sub_cancel_left, sealed_body]
  rw [this]
theorem opened_other {id kind : Nat} {s : ByteArray} (hk2 : kind < 256) (hs : s.size ≤ 500) (hid : id < 4294967296) {a0 : Int} (ha : (id : Int) ≠ a0) : opened a0 (str (sealed id kind (nb s))) = some (0, ⟨#[]⟩, 5) := by
  unfold opened
  have hb : obad a0 (nb (str (sealed id kind (nb s)))) := by
    rw [page_nb hk2]
    refine Or.inr (Or.inr (Or.inl ?_))
    rw [sealed_num _ _ _ hid]
    exact ha
  rw [if_neg (not_not_intro (page_size hs)), if_neg (not_not_intro (page_sum hk2 hs)), if_pos hb]
theorem opened_size (a0 : Int) (s : ByteArray) (h : s.size ≠ 512) : opened a0 s = some (0, ⟨#[]⟩, 5) := by
  unfold opened
  rw [if_pos h]
theorem seal_f {id kind : Nat} {s : ByteArray} (hid : id < 2147483648) (hk : 1 ≤ kind) (hk2 : kind < 256) (hs : s.size ≤ 500) : page_Seal.f (id : Int) (kind : Int) s = some (str (sealed id kind (nb s)), 0) := by
  unfold page_Seal.f
  rw [if_neg (by omega), if_neg (by omega), Int.toNat_natCast, Int.toNat_natCast]
theorem toList_nb (s : ByteArray) : s.toList = (nb s).map fun n => UInt8.ofNat n := by
  rw [← str_data, str_nb, ByteArray.toList_eq]
theorem ab_nb : nb (⟨#[97, 98]⟩ : ByteArray) = [97, 98] := rfl
theorem works_head : ((str (sealed 7 1 [97, 98])).extract 0 11).toList = ([7, 0, 0, 0, 1, 0, 2, 0, 97, 98, 0] : List UInt8) := by
  rw [toList_nb, nb_extract, nb_str (sealed_by (by decide) (fun x hx => by simp at hx; omega)), List.drop_zero]
  rfl
theorem works_f : aquiferlaw09_works.f = some true := by
  have hs : (⟨#[97, 98]⟩ : ByteArray).size ≤ 500 := by decide
  have h1 := seal_f (id := 7) (kind := 1) (s := ⟨#[97, 98]⟩) (by decide) (by decide) (by decide) hs
  have h2 := opened_own (id := 7) (kind := 1) (s := ⟨#[97, 98]⟩) (by decide) (by decide) hs (by decide)
  have h3 := opened_other (id := 7) (kind := 1) (s := ⟨#[97, 98]⟩) (by decide) hs (by decide) (a0 := 8) (by decide)
  have h4 := page_size (id := 7) (kind := 1) (s := ⟨#[97, 98]⟩) hs
  rw [ab_nb] at h1 h2 h3 h4
  rw [show ((7 : Nat) : Int) = 7 from rfl, show ((1 : Nat) : Int) = 1 from rfl] at h1
  rw [show ((7 : Nat) : Int) = 7 from rfl, show ((1 : Nat) : Int) = 1 from rfl] at h2
  have h5 := works_head
  unfold aquiferlaw09_works.f page_Open.f
  rw [h1, Option.bind_some]
  generalize str (sealed 7 1 [97, 98]) = P at *
  rw [h2, Option.bind_some, h3, Option.bind_some, if_pos rfl, if_pos (show (P.size : Int) = 512 by omega), if_pos (by decide), if_pos (show (11 : Int) ≤ (P.size : Int) by omega), if_pos h5, if_pos rfl, if_pos (by decide +kernel), if_pos rfl]
  rfl
end Go.Proofs.YthkcnkhhaiapfaaDoor.Page
