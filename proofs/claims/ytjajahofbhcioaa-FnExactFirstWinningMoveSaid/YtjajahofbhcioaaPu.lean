/- Plain: boards and players; the program's and the reference's answers on them are the same. For all ints, lists shorter than 2^40. -/
import Derived.Test.YtjajahofbhcioaaPh
import Derived.Test.YtjajahofbhcioaaPt
import Derived.Test.YtjajahofbhcioaaQx4
import Derived.Test.YtjajahofbhcioaaQx6
namespace Go.Proofs.Ytjajahofbhcioaa.Pu
open Go.RowKit Go.Proofs.Ytjajahofbhcioaa.Q Go.Proofs.Ytjajahofbhcioaa.Given Go.Proofs.Ytjajahofbhcioaa.Hg Go.Proofs.Ytjajahofbhcioaa.Pa Go.Proofs.Ytjajahofbhcioaa.Pq Go.Proofs.Ytjajahofbhcioaa.Pt Go.Proofs.Ytjajahofbhcioaa.Pm Go.Proofs.Ytjajahofbhcioaa.Ph Go.Proofs.YtjajahofbhcioaaW.PrintWords Go.Proofs.YtjajahofbhcioaaW.PrintLast
set_option linter.unusedVariables false
set_option linter.unusedSimpArgs false

theorem shape_nat {a c : Int} (h : hshape a c = true) : ∃ r q : Nat, a = (r : Int) ∧ c = (q : Int) ∧ 1 ≤ r ∧ 1 ≤ q ∧ r * q ≤ 30 ∧ wrap64 (a * c) = ((r * q : Nat) : Int) := by
  obtain ⟨⟨h1, h2⟩, ⟨h3, h4⟩, h5⟩ := shape_of h
  obtain ⟨r, rfl⟩ := Int.eq_ofNat_of_zero_le (show 0 ≤ a by omega)
  obtain ⟨q, rfl⟩ := Int.eq_ofNat_of_zero_le (show 0 ≤ c by omega)
  have hle : r * q ≤ 30 * 30 := Nat.mul_le_mul (by omega) (by omega)
  have hw : wrap64 ((r : Int) * (q : Int)) = ((r * q : Nat) : Int) := by
    rw [← Int.natCast_mul]; unfold wrap64; omega
  rw [hw] at h5
  exact ⟨r, q, rfl, rfl, by omega, by omega, by omega, hw⟩
theorem rd_val {l : List Int} (h : ∀ x ∈ l, 0 ≤ x ∧ x ≤ 2) (j : Int) : 0 ≤ rd l j ∧ rd l j ≤ 2 := by
  unfold rd
  rw [List.getD_eq_getElem?_getD]
  by_cases hj : j.toNat < l.length
  · rw [List.getElem?_eq_getElem hj]
    exact h _ (List.getElem_mem hj)
  · rw [List.getElem?_eq_none (by omega)]
    simp
theorem player_f (p : Int) : spec_hxPlayer.f p = some (inRange p 1 2) ∧ impl_isPlayer.f p = some (inRange p 1 2) ∧ (inRange p 1 2 = true → p = 1 ∨ p = 2) := by
  refine ⟨by unfold spec_hxPlayer.f; rw [l1In_f]; rfl, ?_, ?_⟩
  · unfold impl_isPlayer.f inRange
    by_cases h1 : p = 1
    · subst h1; rfl
    · rw [if_neg h1]
      congr 1
      by_cases h2 : p = 2
      · subst h2; rfl
      · rw [beq_eq_false_iff_ne.mpr h2]
        by_cases h3 : 1 ≤ p
        · have : ¬ p ≤ 2 := by omega
          simp [h3, this]
        · simp [h3]
  · intro h
    unfold inRange at h
    simp at h
    omega
/-- Both needs on a board. -/
theorem needs {a c : Int} {l : List Int} {p : Int} (hs : hshape a c = true) (hl : (l.length : Int) = wrap64 (a * c)) (hv : ∀ x ∈ l, 0 ≤ x ∧ x ≤ 2) (hp : p = 1 ∨ p = 2) :
    ∃ (r q : Nat), a = (r : Int) ∧ c = (q : Int) ∧ 1 ≤ r ∧ 1 ≤ q ∧ r * q ≤ 30 ∧ l.length = r * q ∧ wrap64 (a * c) = ((r * q : Nat) : Int) ∧ ∃ (K : Nat) (v u : Int), (∀ k, K ≤ k → impl_need.f k a c l p = some v ∧ spec_hxNeed.f k a c l p = some u) ∧
      ((v = 1000 ∧ u = ((r * q : Nat) : Int) + 1 ∧ ∀ cc, ¬ Cost r q l p cc) ∨ (∃ cc : Nat, v = cc ∧ u = cc ∧ cc ≤ r * q ∧ Cost r q l p cc ∧ ∀ c', Cost r q l p c' → cc ≤ c')) := by
  obtain ⟨r, q, rfl, rfl, h1, h2, h3, h4⟩ := shape_nat hs
  have hln : l.length = r * q := by omega
  obtain ⟨K1, v, hv1, hv2⟩ := need_tells (r := r) (c := q) (b := l) (pl := p) h1 h2 h3 hln hp
  obtain ⟨K2, u, hu1, hu2⟩ := hxNeed_tells (r := r) (c := q) (b := l) (pl := p) h1 h2 h3 hln (rd_val hv) hp
  refine ⟨r, q, rfl, rfl, h1, h2, h3, hln, h4, K1 + K2, v, u, fun k hk => ⟨hv1 k (by omega), hu1 k (by omega)⟩, ?_⟩
  rcases hv2 with ⟨e1, n1⟩ | ⟨cc, e1, b1, C1, m1⟩
  · rcases hu2 with ⟨e2, _⟩ | ⟨cc, _, _, C2, _⟩
    · exact .inl ⟨e1, e2, n1⟩
    · exact absurd C2 (n1 _)
  · rcases hu2 with ⟨_, n2⟩ | ⟨c2, e2, b2, C2, m2⟩
    · exact absurd C1 (n2 _)
    · have := m1 _ C2
      have := m2 _ C1
      exact .inr ⟨cc, e1, by omega, b1, C1, m1⟩

theorem haswon_same (a c : Int) (l : List Int) (p : Int) (hm : l.length ≤ 1099511627776) : ∃ (K : Nat) (g : Bool × Bool), ∀ k, K ≤ k → spec_HasWon.f k a c l p = some g ∧ impl_HasWon.f k a c l p = some g := by
  obtain ⟨bb, _, h2, h3⟩ := board_f a c l hm (l.length + 1) (by omega)
  have hg : ∀ k, l.length + 1 ≤ k → spec_hxGood.f k a c l = some bb := fun k hk => by
    obtain ⟨b2, e1, e2, _⟩ := board_f a c l hm k (by omega)
    rw [e1]; rw [h2] at e2; exact e2.symm
  obtain ⟨p1, p2, p3⟩ := player_f p
  cases bb with
  | false =>
    refine ⟨l.length + 1, (false, false), fun k hk => ⟨?_, ?_⟩⟩
    · unfold spec_HasWon.f; rw [hg k hk]; simp
    · unfold impl_HasWon.f; rw [h2]; simp
  | true =>
    obtain ⟨a1, a2, a3⟩ := h3 rfl
    cases hp : inRange p 1 2 with
    | false =>
      rw [hp] at p1 p2
      refine ⟨l.length + 1, (false, false), fun k hk => ⟨?_, ?_⟩⟩
      · unfold spec_HasWon.f; rw [hg k hk]; simp [p1]
      · unfold impl_HasWon.f; rw [h2]; simp [p2]
    | true =>
      obtain ⟨r, q, _, _, _, _, _, _, _, K, v, u, hK, hvu⟩ := needs a1 a2 a3 (p3 hp)
      rw [hp] at p1 p2
      refine ⟨l.length + 1 + K, (u == 0, true), fun k hk => ⟨?_, ?_⟩⟩
      · unfold spec_HasWon.f; rw [hg k (by omega)]; simp [p1, (hK k (by omega)).2]
      · unfold impl_HasWon.f; rw [h2]; simp only [Option.bind_some, if_true, p2, (hK k (by omega)).1]
        have : (v == 0) = (u == 0) := by
          rcases hvu with ⟨e1, e2, _⟩ | ⟨cc, e1, e2, _⟩
          · rw [beq_eq_false_iff_ne.mpr (by omega), beq_eq_false_iff_ne.mpr (by omega)]
          · rw [e1, e2]
        rw [this]

theorem needof_same (a c : Int) (l : List Int) (p : Int) (hm : l.length ≤ 1099511627776) : ∃ (K : Nat) (g : Int × Bool), ∀ k, K ≤ k → spec_NeedOf.f k a c l p = some g ∧ impl_NeedOf.f k a c l p = some g := by
  obtain ⟨bb, _, h2, h3⟩ := board_f a c l hm (l.length + 1) (by omega)
  have hg : ∀ k, l.length + 1 ≤ k → spec_hxGood.f k a c l = some bb := fun k hk => by
    obtain ⟨b2, e1, e2, _⟩ := board_f a c l hm k (by omega)
    rw [e1]; rw [h2] at e2; exact e2.symm
  obtain ⟨p1, p2, p3⟩ := player_f p
  cases bb with
  | false =>
    refine ⟨l.length + 2, (0, false), fun k hk => ?_⟩
    obtain ⟨k, rfl⟩ : ∃ m, k = m + 1 := ⟨k - 1, by omega⟩
    refine ⟨?_, ?_⟩
    · unfold spec_NeedOf.f; rw [hg _ (by omega)]; simp [spec_NeedOf.j0]
    · unfold impl_NeedOf.f; rw [h2]; simp [impl_NeedOf.j0]
  | true =>
    obtain ⟨a1, a2, a3⟩ := h3 rfl
    cases hp : inRange p 1 2 with
    | false =>
      rw [hp] at p1 p2
      refine ⟨l.length + 2, (0, false), fun k hk => ?_⟩
      obtain ⟨k, rfl⟩ : ∃ m, k = m + 1 := ⟨k - 1, by omega⟩
      refine ⟨?_, ?_⟩
      · unfold spec_NeedOf.f; rw [hg _ (by omega)]; simp [p1, spec_NeedOf.j0]
      · unfold impl_NeedOf.f; rw [h2]; simp [p2, impl_NeedOf.j0]
    | true =>
      obtain ⟨r, q, _, _, _, _, h30, _, hw, K, v, u, hK, hvu⟩ := needs a1 a2 a3 (p3 hp)
      rw [hp] at p1 p2
      refine ⟨l.length + 2 + K, if v ≥ 1000 then (0, false) else (v, true), fun k hk => ?_⟩
      obtain ⟨k, rfl⟩ : ∃ m, k = m + 1 := ⟨k - 1, by omega⟩
      refine ⟨?_, ?_⟩
      · unfold spec_NeedOf.f; rw [hg _ (by omega)]; simp only [Option.bind_some, if_true, p1, Bool.not_true, spec_NeedOf.j0, Bool.false_eq_true, if_false, (hK k (by omega)).2, hw]
        rcases hvu with ⟨e1, e2, _⟩ | ⟨cc, e1, e2, e3, _⟩
        · rw [if_pos (by omega), if_pos (by omega)]
        · rw [if_neg (by omega), if_neg (by omega), e1, e2]
      · unfold impl_NeedOf.f; rw [h2]; simp only [Option.bind_some, if_true, p2, Bool.not_true, impl_NeedOf.j0, Bool.false_eq_true, if_false, (hK k (by omega)).1]
        split <;> rfl
end Go.Proofs.Ytjajahofbhcioaa.Pu
