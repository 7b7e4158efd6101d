/- The law FnExactHalfTurn answers true for all ints and every list of ints: the program's HalfTurn and the reference's return the same, in memory of their own, and the list is left alone. No condition. -/
import Derived.Test.YtenaefpbjblmbaaQx6
import Derived.Test.YtenaefpbjblmbaaPh
namespace Go.Proofs.Ytenaefpbjblmbaa.Pure
open Go.RowKit Go.Proofs.Ytenaefpbjblmbaa.Q Go.Proofs.Ytenaefpbjblmbaa.Given Go.Proofs.Ytenaefpbjblmbaa.Pz Go.Proofs.Ytenaefpbjblmbaa.Pm Go.Proofs.Ytenaefpbjblmbaa.Ph Go.Proofs.YtenaefpbjblmbaaW.PrintWords Go.Proofs.YtenaefpbjblmbaaW.PrintLast

namespace HalfTurn
theorem rev_l0 (d : Nat) : ∀ (mid p q : List Int) (k : Nat), mid.length ≤ d → p.length + mid.length + q.length ≤ 1000000 → d < k →
    slices_Reverse_int_int.l0 k (p ++ mid ++ q) (p.length : Int) ((p.length : Int) + (mid.length : Int) - 1) = some (p ++ mid.reverse ++ q) := by
  induction d with
  | zero =>
    intro mid p q k hd hm hk
    obtain ⟨k, rfl⟩ : ∃ m, k = m + 1 := ⟨k - 1, by omega⟩
    obtain rfl : mid = [] := List.length_eq_zero_iff.mp (by omega)
    rw [slices_Reverse_int_int.l0, if_neg (by simp; omega)]
    rfl
  | succ d ih =>
    intro mid p q k hd hm hk
    obtain ⟨k, rfl⟩ : ∃ m, k = m + 1 := ⟨k - 1, by omega⟩
    cases mid with
    | nil =>
      rw [slices_Reverse_int_int.l0, if_neg (by simp; omega)]
      rfl
    | cons a t =>
      rcases List.eq_nil_or_concat t with rfl | ⟨m, b, rfl⟩
      · rw [slices_Reverse_int_int.l0, if_neg (by simp)]
        rfl
      · simp only [List.concat_eq_append] at hd hm ⊢
        have hL : (a :: (m ++ [b])).length = m.length + 2 := by simp
        rw [hL] at hd hm
        have w1 : wrap64 ((p.length : Int) + 1) = ((p ++ [b]).length : Int) := by rw [wr (by omega) (by omega)]; simp
        have w2 : wrap64 ((p.length : Int) + ((a :: (m ++ [b])).length : Int) - 1 - 1) = ((p ++ [b]).length : Int) + (m.length : Int) - 1 := by rw [hL, wr (by omega) (by omega)]; simp; omega
        have e3 : ((p.length : Int) + ((a :: (m ++ [b])).length : Int) - 1).toNat = p.length + 1 + m.length := by rw [hL]; omega
        have hr1 : rd (p ++ a :: (m ++ [b]) ++ q) ((p.length : Int) + ((a :: (m ++ [b])).length : Int) - 1) = b := by
          unfold rd
          rw [e3, List.getD_eq_getElem?_getD, List.append_assoc, List.getElem?_append_right (by omega)]
          simp [show p.length + 1 + m.length - p.length = m.length + 1 by omega]
        have hr2 : rd (p ++ a :: (m ++ [b]) ++ q) (p.length : Int) = a := by
          rw [rd_nat, List.getD_eq_getElem?_getD, List.append_assoc, List.getElem?_append_right (by omega)]
          simp
        have hs : ((p ++ a :: (m ++ [b]) ++ q).set ((p.length : Int)).toNat b).set ((p.length : Int) + ((a :: (m ++ [b])).length : Int) - 1).toNat a = (p ++ [b]) ++ m ++ ([a] ++ q) := by
          rw [e3, Int.toNat_natCast, List.append_assoc, List.set_append_right _ _ (by omega), Nat.sub_self]
          simp only [List.cons_append, List.set_cons_zero]
          rw [List.set_append_right _ _ (by omega), show p.length + 1 + m.length - p.length = m.length + 1 by omega, List.set_cons_succ, List.append_assoc, List.set_append_right _ _ (by omega), Nat.sub_self]
          simp
        have hlen : ((p ++ a :: (m ++ [b]) ++ q).length : Int) = (p.length : Int) + (m.length : Int) + 2 + (q.length : Int) := by simp; omega
        rw [slices_Reverse_int_int.l0, if_pos (by rw [hL]; omega), if_pos (by rw [hL]; omega), if_pos (by rw [hlen, hL]; omega), if_pos (by omega), if_pos (by rw [hlen]; omega), hr1, hr2, hs, w1, w2]
        rw [ih m (p ++ [b]) ([a] ++ q) k (by omega) (by simp; omega) (by omega)]
        simp

theorem rev_f (l : List Int) (hm : l.length ≤ 1000000) (k : Nat) (hk : l.length < k) : slices_Reverse_int_int.f k l = some l.reverse := by
  have h := rev_l0 l.length l [] [] k (by omega) (by simp; omega) hk
  unfold slices_Reverse_int_int.f
  rw [wr (by omega) (by omega)]
  simpa using h

theorem half_l0 (l : List Int) (hm : l.length ≤ 1000000) (i : Nat) : ∀ k, i ≤ l.length → i < k → spec_HalfTurn.l0 k l ((l.drop i).reverse) ((i : Int) - 1) = some (l.reverse, true) := by
  induction i with
  | zero =>
    intro k hi hk
    obtain ⟨k, rfl⟩ : ∃ m, k = m + 1 := ⟨k - 1, by omega⟩
    rw [spec_HalfTurn.l0, if_neg (by omega), List.drop_zero]
  | succ i ih =>
    intro k hi hk
    obtain ⟨k, rfl⟩ : ∃ m, k = m + 1 := ⟨k - 1, by omega⟩
    have h := ih k (by omega) (by omega)
    have hlt : i < l.length := by omega
    have e : l.drop i = rd l (i : Int) :: l.drop (i + 1) := by
      rw [List.drop_eq_getElem_cons hlt, rd_nat]; simp [List.getD_eq_getElem?_getD, List.getElem?_eq_getElem hlt]
    have ei : ((i + 1 : Nat) : Int) - 1 = (i : Int) := by omega
    rw [e, List.reverse_cons] at h
    rw [ei, spec_HalfTurn.l0, if_pos (by omega), if_pos (by omega), if_pos (by omega), if_pos (by simp; omega), wr (by omega) (by omega)]
    exact h
end HalfTurn

theorem FnExactHalfTurn : laws_FnExactHalfTurn.Pure := by
  intro a c l _ _ _ _ _
  by_cases hb : (l.length : Int) > 1048576
  · exact ⟨1, by unfold laws_FnExactHalfTurn.f; rw [if_pos hb]⟩
  · obtain ⟨K, hK⟩ : ∃ K, l.length + 397 ≤ K := ⟨_, Nat.le_refl _⟩
    refine ⟨K + 3, ?_⟩
    have hm : l.length ≤ 1099511627776 := by omega
    have ht : ∀ k, l.length < k → laws_toIntS.f k l = some l := fun k hk => toIntS_f l hm k hk
    have he : ∀ k, l.length < k → laws_eqIntS.f k l l = some true := fun k hk => by rw [eqIntS_f l l hm k hk]; simp
    obtain ⟨b, h1, h2, h3⟩ := board_f a c l hm (K + 3) (by omega)
    have hg : ∃ v b, v.length ≤ l.length ∧ spec_HalfTurn.f (K + 3) a c l = some (v, b) ∧ ∀ k, l.length < k → impl_HalfTurn.f k a c l = some (v, b) := by
      cases b with
      | false =>
        refine ⟨[], false, by simp, ?_, fun k hk => ?_⟩
        · unfold spec_HalfTurn.f; rw [h1]; rfl
        · unfold impl_HalfTurn.f; rw [h2]; rfl
      | true =>
        obtain ⟨hs, hl, _⟩ := h3 rfl
        obtain ⟨_, _, hac⟩ := shape_of hs
        have hle : l.length ≤ 30 := by omega
        refine ⟨l.reverse, true, by simp, ?_, fun k hk => ?_⟩
        · unfold spec_HalfTurn.f
          rw [h1]
          simp only [Option.bind_some, if_true]
          have h := HalfTurn.half_l0 l (by omega) l.length (K + 3) (by omega) (by omega)
          rw [List.drop_of_length_le (Nat.le_refl _)] at h
          rw [wr (by omega) (by omega)]
          exact h
        · unfold impl_HalfTurn.f
          rw [h2]
          simp only [Option.bind_some, if_true]
          unfold slices_Clone_int_int.f
          rw [if_pos (by omega)]
          simp only [Option.bind_some]
          rw [HalfTurn.rev_f l (by omega) k hk]
          rfl
    obtain ⟨v, b, hv, g1, g2⟩ := hg
    have ve : ∀ k, l.length < k → laws_eqIntS.f k v v = some true := fun k hk => by rw [eqIntS_f v v (by omega) k (by omega)]; simp
    have vm : ∀ k, l.length < k → laws_markIntS.f k v 1 = some (1 + (v.length : Int), marks 1 v.length) := fun k hk => markIntS_f v 1 k (by omega) (by omega) (by omega)
    have vh : ∀ k, l.length < k → laws_heldIntS.f k (marks 1 v.length) 1 = some (1 + v.length) := fun k hk => heldIntS_f v.length 1 k (by omega) (by omega) (by omega)
    have lm : ∀ k, l.length < k → laws_markIntS.f k l 1 = some (1 + (l.length : Int), marks 1 l.length) := fun k hk => markIntS_f l 1 k (by omega) (by omega) (by omega)
    have p0 : ¬ (1 + (l.length : Int) < 0) := by omega
    have p1 : ¬ (1 + (v.length : Int) < 0) := by omega
    unfold laws_FnExactHalfTurn.f
    rw [if_neg hb, ht _ (by omega)]
    simp only [Option.bind_some, g1, g2 (K + 3) (by omega), ve (K + 3) (by omega), if_true]
    simp [laws_FnExactHalfTurn.j0, laws_FnExactHalfTurn.j1, laws_FnExactHalfTurn.j2, ht (K + 2) (by omega), he (K + 2) (by omega), lm (K + 2) (by omega), ve (K + 2) (by omega), vm (K + 1) (by omega), vh (K + 1) (by omega), vh K (by omega), ht (K + 1) (by omega), g2 (K + 1) (by omega), ve (K + 1) (by omega), p0, p1]
end Go.Proofs.Ytenaefpbjblmbaa.Pure
