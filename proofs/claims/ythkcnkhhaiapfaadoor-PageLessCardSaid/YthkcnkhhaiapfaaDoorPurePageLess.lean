/- The plain law of PageLess: a page that is cut, or has a byte more, is none; a blank one is none. -/
import Derived.Test.YthkcnkhhaiapfaaDoorPPageAllx31
import Derived.Test.YthkcnkhhaiapfaaDoorPagePure
namespace Go.Proofs.YthkcnkhhaiapfaaDoor.Pure
open Go Go.RowKit Go.Proofs.YthkcnkhhaiapfaaDoor.PPageAll Go.Proofs.YthkcnkhhaiapfaaDoorW.PrintWords Go.Proofs.YthkcnkhhaiapfaaDoorW.PrintLast
theorem zeros_str : strOfNums (List.replicate 512 0) = Page.str (List.replicate 512 0) := by
  unfold Page.str
  rw [← Crc.ints_zeros]
theorem zeros_opened : ∃ e, Page.opened 0 (Page.str (List.replicate 512 0)) = some (0, ⟨#[]⟩, e) ∧ e ≠ 0 := by
  unfold Page.opened
  have hb : Page.obad 0 (Page.nb (Page.str (List.replicate 512 0))) := by
    rw [Page.nb_str (Crc.By.zeros 512)]
    exact Or.inr (Or.inr (Or.inr (Or.inl (by decide))))
  split
  · exact ⟨5, rfl, by decide⟩
  · split
    · exact ⟨6, rfl, by decide⟩
    · exact ⟨5, by first | rfl | rw [if_pos hb], by decide⟩
theorem mod_fit (a m : Int) (hm : 0 < m) (hm2 : m ≤ 1000) : ∃ n : Nat, Int.tmod (wrap64 (Int.tmod a m + m)) m = (n : Int) ∧ n < m := by
  have h1 := Int.tmod_lt_of_pos a hm
  have h2 : -m < Int.tmod a m := by
    rcases Int.le_total 0 a with h | h
    · have := Int.tmod_nonneg m h
      omega
    · have := Int.tmod_nonneg m (a := -a) (by omega)
      have e : Int.tmod (-a) m = -Int.tmod a m := Int.neg_tmod ..
      have := Int.tmod_lt_of_pos (-a) hm
      omega
  have e : wrap64 (Int.tmod a m + m) = Int.tmod a m + m := by unfold wrap64; omega
  rw [e]
  have h3 := Int.tmod_nonneg m (a := Int.tmod a m + m) (by omega)
  have h4 := Int.tmod_lt_of_pos (Int.tmod a m + m) hm
  exact ⟨(Int.tmod (Int.tmod a m + m) m).toNat, by omega, by omega⟩
theorem blank_f (s : ByteArray) (hs : s.size = 512) : ∃ b, page_Blank.f s = some b ∧ (b = true ↔ ∀ x ∈ Page.nb s, x = 0) := by
  unfold page_Blank.f
  obtain ⟨t, ht, hi⟩ := strings_Trim.total s (by omega)
  rw [if_pos (by omega), ht, Option.bind_some]
  exact ⟨_, rfl, by rw [beq_iff_eq]; exact hi⟩
theorem PageLess : aquiferlaw09_PageLess.Pure := by
  intro a0 a1 a2 _ _ _
  refine ⟨1, ?_⟩
  unfold aquiferlaw09_PageLess.f
  rw [if_pos (by unfold mn; omega), if_pos (by unfold mn; omega)]
  have hs : (a1.extract 0 (mn (a1.size : Int) 500).toNat).size ≤ 500 := by
    rw [ByteArray.size_extract]
    unfold mn
    omega
  generalize a1.extract 0 (mn (a1.size : Int) 500).toNat = s at *
  obtain ⟨id, hid, hlt⟩ := mod_fit a0 1000 (by decide) (by decide)
  obtain ⟨n, hn, hnl⟩ := mod_fit a2 512 (by decide) (by decide)
  have h1 := Page.seal_f (id := id) (kind := 1) (s := s) (by omega) (by decide) (by decide) hs
  rw [show ((1 : Nat) : Int) = 1 from rfl] at h1
  have h2 := Page.page_size (id := id) (kind := 1) (s := s) hs
  obtain ⟨b, hb, hbi⟩ := blank_f _ h2
  rw [hid, h1, Option.bind_some, if_pos rfl]
  rw [aquiferlaw09_PageLess.j0, hid, hn]
  have hbf : b = false := by
    cases b with
    | false => rfl
    | true =>
      have := hbi.1 rfl
      rw [Page.page_nb (by decide)] at this
      have h4 := this 1 (by simp [Page.sealed, Page.pre])
      cases h4
  have hx : Page.opened (id : Int) ((Page.str (Page.sealed id 1 (Page.nb s))).extract 0 ((n : Int)).toNat) = some (0, ⟨#[]⟩, 5) := Page.opened_size _ _ (by rw [ByteArray.size_extract, h2]; omega)
  have hy : Page.opened (id : Int) (Page.str (Page.sealed id 1 (Page.nb s)) ++ (⟨#[120]⟩ : ByteArray)) = some (0, ⟨#[]⟩, 5) := Page.opened_size _ _ (by
    rw [ByteArray.size_append, h2]
    decide)
  obtain ⟨e, he, hne⟩ := zeros_opened
  unfold page_Open.f
  generalize Page.str (Page.sealed id 1 (Page.nb s)) = P at *
  rw [if_neg (by simp [h2]), if_pos (by omega), if_pos (show (n : Int) ≤ (P.size : Int) by omega), hx, Option.bind_some, if_pos (show P.size + 1 ≤ 9223372036854775807 by omega), hy, Option.bind_some, if_pos (by decide), zeros_str, he, Option.bind_some]
  rw [if_pos rfl, if_pos rfl, if_neg hne, hb, Option.bind_some, hbf, if_neg (by decide), Page.works_f, Option.bind_some]
end Go.Proofs.YthkcnkhhaiapfaaDoor.Pure
