/- Plain lemmas on signs: the reference's and the program's tests of labels of squares say the same, and the maps on labels. -/
import Derived.Test.YtmdhclpkbopmdaaPm
import Derived.Test.YtmdhclpkbopmdaaGj
import Derived.Test.YtmdhclpkbopmdaaQx3
import Derived.Test.YtmdhclpkbopmdaaQx5
namespace Go.Proofs.Ytmdhclpkbopmdaa.Po
open Go.RowKit Go.Proofs.Ytmdhclpkbopmdaa.Q Go.Proofs.Ytmdhclpkbopmdaa.Given Go.Proofs.Ytmdhclpkbopmdaa.Pz Go.Proofs.Ytmdhclpkbopmdaa.Pm Go.Proofs.YtmdhclpkbopmdaaW.PrintWords Go.Proofs.YtmdhclpkbopmdaaW.PrintLast

def sgn (x : Int) : Bool := !(!(inRange x (-2) 2) || x == 0)
theorem opLabels_l0 (l : List Int) (hm : l.length ≤ 1099511627776) (d : Nat) : ∀ (k i : Nat), l.length - i = d → i ≤ l.length → d < k →
    spec_opLabels.l0 k l (l.length : Int) (i : Int) = some ((l.drop i).all sgn) := by
  induction d with
  | zero =>
    intro k i hd hi' hk
    obtain ⟨k, rfl⟩ : ∃ m, k = m + 1 := ⟨k - 1, by omega⟩
    obtain rfl : i = l.length := by omega
    simp only [spec_opLabels.l0]
    rw [if_neg (by omega), List.drop_of_length_le (Nat.le_refl _)]
    rfl
  | succ d ih =>
    intro k i hd hi' hk
    obtain ⟨k, rfl⟩ : ∃ m, k = m + 1 := ⟨k - 1, by omega⟩
    have hlt : i < l.length := by omega
    have w2 : wrap64 ((i : Int) + 1) = ((i + 1 : Nat) : Int) := by rw [wr (by omega) (by omega)]; omega
    have ea : l.drop i = l.getD i 0 :: l.drop (i + 1) := by
      rw [List.drop_eq_getElem_cons hlt]; simp [List.getD_eq_getElem?_getD, List.getElem?_eq_getElem hlt]
    simp only [spec_opLabels.l0]
    rw [if_pos (by omega), if_pos (by omega), if_pos (by omega), rd_nat, w2, l1In_f, Option.bind_some, ih k (i + 1) (by omega) (by omega) (by omega), ea, List.all_cons]
    unfold sgn
    generalize l.getD i 0 = x
    by_cases c : x = 0
    · subst c; simp
    · have c' : (x == 0) = false := beq_eq_false_iff_ne.mpr c
      rw [c']
      cases inRange x (-2) 2 <;> simp [c]

theorem opLabels_f (a : Int) (l : List Int) (hm : l.length ≤ 1099511627776) (k : Nat) (hk : l.length + 1 < k) : ∃ b, spec_opLabels.f k a l = some b ∧ impl_areSigns.f a l = some b ∧ (b = true → (1 ≤ a ∧ a ≤ 4) ∧ (l.length : Int) = signs a ∧ ∀ x ∈ l, x = -2 ∨ x = -1 ∨ x = 1 ∨ x = 2) := by
  obtain ⟨k, rfl⟩ : ∃ m, k = m + 1 := ⟨k - 1, by omega⟩
  refine ⟨inRange a 1 4 && (((l.length : Int) == signs a) && l.all sgn), ?_, ?_, ?_⟩
  · unfold spec_opLabels.f spec_opReach.f spec_opCount.f
    rw [l1In_f]
    simp only [Option.bind_some]
    have h0 := opLabels_l0 l hm l.length k 0 (by omega) (by omega) (by omega)
    rw [List.drop_zero] at h0
    cases inRange a 1 4
    · simp [spec_opLabels.j0]
    · by_cases c : (l.length : Int) = signs a
      · have c' : ((l.length : Int) != (wrap64 ((wrap64 ((wrap64 (2 * a)) + 1)) * (wrap64 ((wrap64 (2 * a)) + 1))))) = false := bne_eq_false_iff_eq.mpr c
        have c2 : ((l.length : Int) == signs a) = true := beq_iff_eq.mpr c
        rw [if_pos rfl, c', c2, spec_opLabels.j0, if_neg (by decide)]
        simpa using h0
      · have c' : ((l.length : Int) != (wrap64 ((wrap64 ((wrap64 (2 * a)) + 1)) * (wrap64 ((wrap64 (2 * a)) + 1))))) = true := bne_iff_ne.mpr c
        have c2 : ((l.length : Int) == signs a) = false := beq_eq_false_iff_ne.mpr c
        rw [if_pos rfl, c', c2, spec_opLabels.j0, if_pos rfl]
        rfl
  · unfold impl_areSigns.f impl_isReach.f
    rw [in_f]
    simp only [Option.bind_some]
    congr 3
    refine Eq.trans ?_ (List.all_eq_not_any_not (l := l) (p := sgn)).symm
    congr 2
    funext x
    simp [sgn]
  · intro h
    unfold inRange at h
    simp only [Bool.and_eq_true, decide_eq_true_eq, beq_iff_eq, List.all_eq_true] at h
    refine ⟨h.1, h.2.1, fun x hx => ?_⟩
    have := h.2.2 x hx
    unfold sgn inRange at this
    simp at this
    omega

theorem take_snoc (f : Int → Int) (l : List Int) (i : Nat) (h : i < l.length) : (l.take (i + 1)).map f = (l.take i).map f ++ [f (rd l i)] := by
  rw [List.take_add_one, List.map_append, List.getElem?_eq_getElem h]
  simp [rd, List.getElem?_eq_getElem h]
theorem neg_l0 (l : List Int) (hm : l.length ≤ 1099511627776) (d : Nat) : ∀ (k i : Nat), l.length - i = d → i ≤ l.length → d < k →
    spec_NegateLabels.l0 k ((l.take i).map fun x => wrap64 (-x)) l (l.length : Int) (i : Int) = some (l.map fun x => wrap64 (-x), true) := by
  induction d with
  | zero =>
    intro k i hd hi' hk
    obtain ⟨k, rfl⟩ : ∃ m, k = m + 1 := ⟨k - 1, by omega⟩
    obtain rfl : i = l.length := by omega
    simp only [spec_NegateLabels.l0]
    rw [if_neg (by omega), List.take_length]
  | succ d ih =>
    intro k i hd hi' hk
    obtain ⟨k, rfl⟩ : ∃ m, k = m + 1 := ⟨k - 1, by omega⟩
    have hlt : i < l.length := by omega
    have w2 : wrap64 ((i : Int) + 1) = ((i + 1 : Nat) : Int) := by rw [wr (by omega) (by omega)]; omega
    have h := ih k (i + 1) (by omega) (by omega) (by omega)
    rw [take_snoc _ l i hlt] at h
    simp only [spec_NegateLabels.l0]
    rw [if_pos (by omega), if_pos (by omega), if_pos (by omega), if_pos (by rw [List.length_map, List.length_take]; omega), w2]
    exact h
theorem turn_l0 (l : List Int) (hm : l.length ≤ 1099511627776) (hx : ∀ x ∈ l, x = -2 ∨ x = -1 ∨ x = 1 ∨ x = 2) (d : Nat) : ∀ (k i : Nat), l.length - i = d → i ≤ l.length → d < k →
    spec_AddTurn.l0 k ((l.take i).map turn) l (l.length : Int) (i : Int) = some (l.map turn, true) := by
  induction d with
  | zero =>
    intro k i hd hi' hk
    obtain ⟨k, rfl⟩ : ∃ m, k = m + 1 := ⟨k - 1, by omega⟩
    obtain rfl : i = l.length := by omega
    simp only [spec_AddTurn.l0]
    rw [if_neg (by omega), List.take_length]
  | succ d ih =>
    intro k i hd hi' hk
    obtain ⟨k, rfl⟩ : ∃ m, k = m + 1 := ⟨k - 1, by omega⟩
    have hlt : i < l.length := by omega
    have w2 : wrap64 ((i : Int) + 1) = ((i + 1 : Nat) : Int) := by rw [wr (by omega) (by omega)]; omega
    have h := ih k (i + 1) (by omega) (by omega) (by omega)
    rw [take_snoc _ l i hlt] at h
    have hv := hx (rd l i) (by rw [rd_nat, List.getD_eq_getElem?_getD, List.getElem?_eq_getElem hlt]; simp)
    have hl : ((l.take i).map turn).length < 17592186044416 := by rw [List.length_map, List.length_take]; omega
    simp only [spec_AddTurn.l0]
    rw [if_pos (by omega), if_pos (by omega), if_pos (by omega), w2]
    generalize rd l i = x at h hv ⊢
    simp only [Option.bind_some]
    obtain rfl | rfl | rfl | rfl := hv
    · rw [show spec_opPlace.f (-2) = some 3 from by decide +kernel]
      simp only [Option.bind_some]
      rw [show Int.tmod (wrap64 (3 + 1)) 4 = 0 from by decide +kernel, if_pos (by decide), if_pos (by decide), if_pos hl]
      exact h
    · rw [show spec_opPlace.f (-1) = some 2 from by decide +kernel]
      simp only [Option.bind_some]
      rw [show Int.tmod (wrap64 (2 + 1)) 4 = 3 from by decide +kernel, if_pos (by decide), if_pos (by decide), if_pos hl]
      exact h
    · rw [show spec_opPlace.f 1 = some 0 from by decide +kernel]
      simp only [Option.bind_some]
      rw [show Int.tmod (wrap64 (0 + 1)) 4 = 1 from by decide +kernel, if_pos (by decide), if_pos (by decide), if_pos hl]
      exact h
    · rw [show spec_opPlace.f 2 = some 1 from by decide +kernel]
      simp only [Option.bind_some]
      rw [show Int.tmod (wrap64 (1 + 1)) 4 = 2 from by decide +kernel, if_pos (by decide), if_pos (by decide), if_pos hl]
      exact h
end Go.Proofs.Ytmdhclpkbopmdaa.Po
