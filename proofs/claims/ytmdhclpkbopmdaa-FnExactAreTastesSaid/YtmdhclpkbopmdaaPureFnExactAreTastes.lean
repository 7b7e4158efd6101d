/- The law FnExactAreTastes answers true for all rows of numbers: three rows, as long as the side, of numbers 0 to 9. No condition. -/
import Derived.Test.YtmdhclpkbopmdaaLwAreTastes
import Derived.Test.YtmdhclpkbopmdaaPz
namespace Go.Proofs.Ytmdhclpkbopmdaa.Pure
open Go.RowKit Go.Proofs.Ytmdhclpkbopmdaa.Q Go.Proofs.Ytmdhclpkbopmdaa.Given Go.Proofs.Ytmdhclpkbopmdaa.Pz Go.Proofs.YtmdhclpkbopmdaaW.PrintWords Go.Proofs.YtmdhclpkbopmdaaW.PrintLast
set_option linter.unusedVariables false
set_option linter.unusedSimpArgs false

namespace AreTastes
theorem rd_row (l : List (List Int)) (i : Nat) (h : i < l.length) : rd_L1 l (i : Int) = l[i] := by
  unfold rd_L1
  rw [Int.toNat_natCast, List.getD_eq_getElem?_getD, List.getElem?_eq_getElem h]
  rfl
/-- How much the rows are: an answer, and if it is no less than 0 no row is long. -/
theorem sz_l0 (l : List (List Int)) (hl : l.length ≤ maxLen) (hx : ∀ x ∈ l, x.length ≤ maxLen) (d : Nat) : ∀ (k i : Nat) (left : Int), i + d = l.length → d < k → 0 ≤ left → left ≤ 1048576 →
    ∃ r, laws_szIntSS.l0 k l left (i : Int) = some r ∧ (0 ≤ r → ∀ x ∈ l.drop i, x.length ≤ 1048576) := by
  induction d with
  | zero =>
    intro k i left hi hk h0 h1
    obtain ⟨k, rfl⟩ : ∃ m, k = m + 1 := ⟨k - 1, by omega⟩
    refine ⟨left, by rw [laws_szIntSS.l0, if_neg (by omega)], fun _ x hx => ?_⟩
    rw [List.drop_of_length_le (by omega)] at hx
    cases hx
  | succ d ih =>
    intro k i left hi hk h0 h1
    obtain ⟨k, rfl⟩ : ∃ m, k = m + 1 := ⟨k - 1, by omega⟩
    have hil : i < l.length := by omega
    have hr := hx _ (List.getElem_mem hil)
    unfold maxLen at hl hr
    have hw : wrap64 (left - ((l[i].length : Nat) : Int)) = left - (l[i].length : Int) := wr (by omega) (by omega)
    have hi1 : wrap64 ((i : Int) + 1) = ((i + 1 : Nat) : Int) := by rw [wr (by omega) (by omega)]; rfl
    have hd := List.drop_eq_getElem_cons hil
    rw [laws_szIntSS.l0, if_pos (by omega), if_pos (by omega), rd_row l i hil]
    unfold laws_szIntS.f
    rw [hw]
    by_cases hneg : left - (l[i].length : Int) < 0
    · rw [if_pos hneg]
      exact ⟨-1, rfl, fun h => absurd h (by decide)⟩
    · rw [if_neg hneg, Option.bind_some, if_neg hneg, hi1]
      obtain ⟨r, e, hr2⟩ := ih k (i + 1) (left - (l[i].length : Int)) (by omega) (by omega) (by omega) (by omega)
      refine ⟨r, e, fun h x hx => ?_⟩
      rw [hd] at hx
      rcases List.mem_cons.1 hx with rfl | hx
      · omega
      · exact hr2 h x hx
theorem eq_l0 (l : List (List Int)) (hl : l.length ≤ 1048576) (hx : ∀ x ∈ l, x.length ≤ 1048576) (d : Nat) : ∀ (k i : Nat), i + d = l.length → d + 1048577 < k → laws_eqIntSS.l0 k l l (i : Int) = some true := by
  induction d with
  | zero =>
    intro k i hi hk
    obtain ⟨k, rfl⟩ : ∃ m, k = m + 1 := ⟨k - 1, by omega⟩
    rw [laws_eqIntSS.l0, if_neg (by omega)]
  | succ d ih =>
    intro k i hi hk
    obtain ⟨k, rfl⟩ : ∃ m, k = m + 1 := ⟨k - 1, by omega⟩
    have hil : i < l.length := by omega
    have hr := hx _ (List.getElem_mem hil)
    have hi1 : wrap64 ((i : Int) + 1) = ((i + 1 : Nat) : Int) := by rw [wr (by omega) (by omega)]; rfl
    rw [laws_eqIntSS.l0, if_pos (by omega), if_pos (by omega), if_pos (by omega), rd_row l i hil, eqIntS_f _ _ (by omega) k (by omega), Option.bind_some, if_pos (by simp), hi1]
    exact ih k (i + 1) (by omega) (by omega)
theorem in_f (x a b : Int) : impl_in.f x a b = some (inRange x a b) := in_rg x a b
theorem l1In_f (x a b : Int) : spec_l1In.f x a b = some (inRange x a b) := by
  unfold spec_l1In.f inRange
  by_cases h : x ≥ a
  · rw [if_pos h, decide_eq_true (show a ≤ x from h)]
    simp
  · rw [if_neg h, decide_eq_false (show ¬ a ≤ x from h)]
    simp
theorem all_l0 (x : List Int) (hx : x.length ≤ 1048576) (d : Nat) : ∀ (k i : Nat), i + d = x.length → d < k → spec_l1All.l0 k 0 9 x (x.length : Int) (i : Int) = some ((x.drop i).all fun y => inRange y 0 9) := by
  induction d with
  | zero =>
    intro k i hi hk
    obtain ⟨k, rfl⟩ : ∃ m, k = m + 1 := ⟨k - 1, by omega⟩
    rw [spec_l1All.l0, if_neg (by omega), List.drop_of_length_le (by omega)]
    rfl
  | succ d ih =>
    intro k i hi hk
    obtain ⟨k, rfl⟩ : ∃ m, k = m + 1 := ⟨k - 1, by omega⟩
    have hil : i < x.length := by omega
    have hi1 : wrap64 ((i : Int) + 1) = ((i + 1 : Nat) : Int) := by rw [wr (by omega) (by omega)]; rfl
    have er : rd x (i : Int) = x[i] := by
      unfold rd
      rw [Int.toNat_natCast, List.getD_eq_getElem?_getD, List.getElem?_eq_getElem hil]
      rfl
    rw [spec_l1All.l0, if_pos (by omega), if_pos (by omega), if_pos (by omega), er, l1In_f, Option.bind_some, List.drop_eq_getElem_cons hil, List.all_cons]
    by_cases h : inRange x[i] 0 9 = true
    · rw [if_pos h, hi1, ih k (i + 1) (by omega) (by omega), h, Bool.true_and]
    · rw [if_neg h]
      simp only [Bool.not_eq_true] at h
      rw [h, Bool.false_and]
theorem rowP_eq (n : Int) (x : List Int) : rowP n 9 x = !(decide ((x.length : Int) = n) && x.all fun y => inRange y 0 9) := by
  unfold rowP
  by_cases h : (x.length : Int) = n
  · rw [bne_eq_false_iff_eq.2 h, decide_eq_true h, Bool.false_or, Bool.true_and, List.not_all_eq_any_not]
  · rw [bne_iff_ne.2 h, decide_eq_false h]
    rfl
theorem ck_l0 (n : Int) (l : List (List Int)) (hl : l.length ≤ 1048576) (hx : ∀ x ∈ l, x.length ≤ 1048576) (d : Nat) : ∀ (k i : Nat), i + d = l.length → d + 1048577 < k → spec_ckTastes.l0 k n l (l.length : Int) (i : Int) = some (!((l.drop i).any (rowP n 9))) := by
  induction d with
  | zero =>
    intro k i hi hk
    obtain ⟨k, rfl⟩ : ∃ m, k = m + 1 := ⟨k - 1, by omega⟩
    rw [spec_ckTastes.l0, if_neg (by omega), List.drop_of_length_le (by omega)]
    rfl
  | succ d ih =>
    intro k i hi hk
    obtain ⟨k, rfl⟩ : ∃ m, k = m + 1 := ⟨k - 1, by omega⟩
    have hil : i < l.length := by omega
    have hr := hx _ (List.getElem_mem hil)
    have hi1 : wrap64 ((i : Int) + 1) = ((i + 1 : Nat) : Int) := by rw [wr (by omega) (by omega)]; rfl
    rw [spec_ckTastes.l0, if_pos (by omega), if_pos (by omega), if_pos (by omega), rd_row l i hil, List.drop_eq_getElem_cons hil, List.any_cons, rowP_eq]
    by_cases h : ((l[i].length : Nat) : Int) = n
    · rw [if_pos h, decide_eq_true h]
      unfold spec_l1All.f
      have ha := all_l0 l[i] hr l[i].length k 0 (by omega) (by omega)
      rw [List.drop_zero] at ha
      rw [show ((0 : Nat) : Int) = 0 from rfl] at ha
      rw [ha, Option.bind_some]
      by_cases h2 : (l[i].all fun y => inRange y 0 9) = true
      · rw [if_pos h2, hi1, ih k (i + 1) (by omega) (by omega), h2]
        rfl
      · rw [if_neg h2]
        simp only [Bool.not_eq_true] at h2
        rw [h2]
        rfl
    · rw [if_neg h, decide_eq_false h]
      rfl
end AreTastes

theorem FnExactAreTastes : laws_FnExactAreTastes.Pure := by
  intro n l hn hl hx _
  obtain ⟨k, hk⟩ : ∃ k, k = l.length + 1048600 := ⟨_, rfl⟩
  have hw : wrap64 (1048576 - (l.length : Int)) = 1048576 - (l.length : Int) := by unfold maxLen at hl; exact wr (by omega) (by omega)
  by_cases h0 : 1048576 - (l.length : Int) < 0
  · refine ⟨k, -1, ?_, fun h => absurd h (by decide)⟩
    unfold laws_szIntSS.f
    rw [hw, if_pos h0]
  · obtain ⟨r, e, hr⟩ := AreTastes.sz_l0 l hl hx l.length k 0 (1048576 - (l.length : Int)) (by omega) (by omega) (by omega) (by omega)
    refine ⟨k, r, ?_, fun h => ?_⟩
    · unfold laws_szIntSS.f
      rw [hw, if_neg h0]
      exact e
    · have h1 : l.length ≤ 1048576 := by omega
      have h2 : ∀ x ∈ l, x.length ≤ 1048576 := by have := hr h; rwa [List.drop_zero] at this
      refine ⟨h1, h2, ?_⟩
      have hq : laws_eqIntSS.f k l l = some true := by
        unfold laws_eqIntSS.f
        rw [if_pos rfl]
        exact AreTastes.eq_l0 l h1 h2 l.length k 0 (by omega) (by omega)
      have hs : spec_meSide.f n = some (inRange n 1 8) := by unfold spec_meSide.f; rw [AreTastes.l1In_f]; rfl
      have hi : impl_isSide.f n = some (inRange n 1 8) := by unfold impl_isSide.f; rw [AreTastes.in_f]; rfl
      cases hb : inRange n 1 8 with
      | false =>
        refine ⟨false, false, ?_, ?_, hq⟩
        · unfold spec_AreTastes.f
          rw [hs, hb, Option.bind_some, if_neg (by decide)]
        · unfold impl_AreTastes.f impl_areTastes.f
          rw [hi, hb]
          rfl
      | true =>
        refine ⟨((l.length : Int) == 3) && !(l.any (rowP n 9)), true, ?_, ?_, hq⟩
        · unfold spec_AreTastes.f spec_ckTastes.f
          rw [hs, hb, Option.bind_some, if_pos rfl, Option.bind_some, if_pos rfl]
          obtain ⟨k, rfl⟩ : ∃ m, k = m + 1 := ⟨k - 1, by omega⟩
          rw [spec_ckTastes.j0]
          by_cases h3 : (l.length : Int) = 3
          · rw [bne_eq_false_iff_eq.2 h3, if_neg (by decide)]
            have hc := AreTastes.ck_l0 n l h1 h2 l.length k 0 (by omega) (by omega)
            rw [List.drop_zero, show ((0 : Nat) : Int) = 0 from rfl] at hc
            rw [hc, Option.bind_some, beq_iff_eq.2 h3, Bool.true_and]
          · rw [bne_iff_ne.2 h3, if_pos rfl, Option.bind_some, beq_eq_false_iff_ne.2 h3, Bool.false_and]
        · unfold impl_AreTastes.f impl_areTastes.f impl_areLists.f
          rw [hi, hb]
          rfl
end Go.Proofs.Ytmdhclpkbopmdaa.Pure
