/- The law FnExactWinnerOf answers true for all ints and every list of ints: the program's WinnerOf and the reference's return the same, and the list is left alone. No condition. -/
import Derived.Test.YtenaefpbjblmbaaQx8
import Derived.Test.YtenaefpbjblmbaaPu
import Derived.Test.YtenaefpbjblmbaaPw
namespace Go.Proofs.Ytenaefpbjblmbaa.Pure
open Go.RowKit Go.Proofs.Ytenaefpbjblmbaa.Q Go.Proofs.Ytenaefpbjblmbaa.Given Go.Proofs.Ytenaefpbjblmbaa.Pz Go.Proofs.Ytenaefpbjblmbaa.Pm Go.Proofs.Ytenaefpbjblmbaa.Ph Go.Proofs.YtenaefpbjblmbaaW.PrintWords Go.Proofs.YtenaefpbjblmbaaW.PrintLast
set_option linter.unusedVariables false
set_option linter.unusedSimpArgs false

namespace WinnerOf
theorem index_l0 (l : List Int) (x : Int) (hm : l.length ≤ 1099511627776) (d : Nat) : ∀ (i k : Nat), i + d = l.length → d < k → (∀ j : Nat, j < i → rd l j ≠ x) →
    ∃ v, slices_Index_int_int.l0 k l x (l.length : Int) (i : Int) = some v ∧ ((0 ≤ v ∧ x ∈ l) ∨ (v < 0 ∧ ∀ j : Nat, j < l.length → rd l j ≠ x)) := by
  induction d with
  | zero =>
    intro i k hi hk hj
    obtain ⟨k, rfl⟩ : ∃ m, k = m + 1 := ⟨k - 1, by omega⟩
    refine ⟨-1, ?_, .inr ⟨by omega, fun j hj2 => hj j (by omega)⟩⟩
    rw [slices_Index_int_int.l0, if_neg (by omega)]
  | succ d ih =>
    intro i k hi hk hj
    obtain ⟨k, rfl⟩ : ∃ m, k = m + 1 := ⟨k - 1, by omega⟩
    have hil : i < l.length := by omega
    by_cases hx : x = rd l (i : Nat)
    · refine ⟨i, ?_, .inl ⟨by omega, ?_⟩⟩
      · rw [slices_Index_int_int.l0, if_pos (by omega), if_pos (by omega), if_pos (by omega), if_pos hx]
      · rw [hx]; unfold rd
        rw [List.getD_eq_getElem?_getD, Int.toNat_natCast, List.getElem?_eq_getElem hil]
        exact List.getElem_mem hil
    · obtain ⟨v, h1, h2⟩ := ih (i + 1) k (by omega) (by omega) (fun j hj2 => by
        by_cases e : j = i
        · subst e; exact fun h => hx h.symm
        · exact hj j (by omega))
      refine ⟨v, ?_, h2⟩
      rw [slices_Index_int_int.l0, if_pos (by omega), if_pos (by omega), if_pos (by omega), if_neg hx, wr (by omega) (by omega)]
      exact_mod_cast h1
theorem contains_f (l : List Int) (x : Int) (hm : l.length ≤ 1099511627776) (k : Nat) (hk : l.length < k) : slices_Contains_int_int.f k l x = some (l.contains x) := by
  unfold slices_Contains_int_int.f slices_Index_int_int.f
  obtain ⟨v, h1, h2⟩ := index_l0 l x hm l.length 0 k (by omega) hk (fun j hj => by omega)
  rw [show ((0 : Nat) : Int) = 0 from rfl] at h1
  rw [h1]
  simp only [Option.bind_some]
  rcases h2 with ⟨h2, h3⟩ | ⟨h2, h3⟩
  · simp [h2, h3]
  · have : x ∉ l := by
      intro hx
      obtain ⟨j, hj, e⟩ := List.mem_iff_getElem.mp hx
      have := h3 j hj
      unfold rd at this
      rw [List.getD_eq_getElem?_getD, Int.toNat_natCast, List.getElem?_eq_getElem hj] at this
      exact this e
    simp [this]
    omega
theorem full_iff (l : List Int) (hv : ∀ x ∈ l, 0 ≤ x ∧ x ≤ 2) : (l.all fun x => inRange x 1 2) = !(l.contains 0) := by
  induction l with
  | nil => rfl
  | cons x t ih =>
    have h1 := hv x (by simp)
    have h2 := ih (fun y hy => hv y (by simp [hy]))
    rw [List.all_cons, h2, List.contains_cons, Bool.not_or]
    congr 1
    unfold inRange
    obtain rfl | rfl | rfl : x = 0 ∨ x = 1 ∨ x = 2 := by omega
    · rfl
    · rfl
    · rfl
open Go.Proofs.Ytenaefpbjblmbaa.Pu Go.Proofs.Ytenaefpbjblmbaa.Pq Go.Proofs.Ytenaefpbjblmbaa.Pw in
theorem same (a c : Int) (l : List Int) (hm : l.length ≤ 1099511627776) : ∃ (K : Nat) (g : Int × Bool), ∀ k, K ≤ k → spec_WinnerOf.f k a c l = some g ∧ impl_WinnerOf.f k a c l = some g := by
  obtain ⟨bb, _, h2, h3⟩ := board_f a c l hm (l.length + 1) (by omega)
  have hg : ∀ k, l.length + 1 ≤ k → spec_hxGood.f k a c l = some bb := fun k hk => by
    obtain ⟨b2, e1, e2, _⟩ := board_f a c l hm k (by omega)
    rw [e1]; rw [h2] at e2; exact e2.symm
  cases bb with
  | false =>
    refine ⟨l.length + 1, (0, false), fun k hk => ⟨?_, ?_⟩⟩
    · unfold spec_WinnerOf.f spec_hxFull.f; rw [hg k hk]; simp
    · unfold impl_WinnerOf.f impl_isFullBoard.f; rw [h2]; simp
  | true =>
    obtain ⟨a1, a2, a3⟩ := h3 rfl
    have hf1 : ∀ k, l.length + 1 ≤ k → spec_hxFull.f k a c l = some (!(l.contains 0)) := fun k hk => by
      unfold spec_hxFull.f
      rw [hg k hk, l1All_f l 1 2 hm k (by omega), full_iff l a3]
      rfl
    have hf2 : ∀ k, l.length + 1 ≤ k → impl_isFullBoard.f k a c l = some (!(l.contains 0)) := fun k hk => by
      unfold impl_isFullBoard.f
      rw [h2, contains_f l 0 hm k (by omega)]
      rfl
    cases hc : l.contains 0 with
    | true =>
      rw [hc] at hf1 hf2
      refine ⟨l.length + 1, (0, false), fun k hk => ⟨?_, ?_⟩⟩
      · unfold spec_WinnerOf.f; rw [hf1 k hk]; simp
      · unfold impl_WinnerOf.f; rw [hf2 k hk]; simp
    | false =>
      rw [hc] at hf1 hf2
      obtain ⟨r, q, hr, hq, r1, q1, _, hlen, _, K1, v1, u1, hK1, h1⟩ := needs a1 a2 a3 (p := 1) (.inl rfl)
      obtain ⟨r', q', hr', hq', _, _, _, _, _, K2, v2, u2, hK2, h2'⟩ := needs a1 a2 a3 (p := 2) (.inr rfl)
      obtain rfl : r' = r := by omega
      obtain rfl : q' = q := by omega
      have hfull : ∀ i : Nat, i < r' * q' → rd l i = 1 ∨ rd l i = 2 := by
        intro i hi
        have hil : i < l.length := by omega
        have he : rd l (i : Nat) = l[i] := by unfold rd; rw [List.getD_eq_getElem?_getD, Int.toNat_natCast, List.getElem?_eq_getElem hil]; rfl
        have := a3 _ (List.getElem_mem hil)
        rw [← he] at this
        have h0 : rd l (i : Nat) ≠ 0 := by
          intro h0
          rw [he] at h0
          have hm0 : (0 : Int) ∈ l := h0 ▸ List.getElem_mem hil
          have : l.contains 0 = true := by simpa using hm0
          rw [hc] at this; cases this
        omega
      have hone := one_won r1 q1 hfull
      refine ⟨l.length + 5 + K1 + K2, (if u1 = 0 then 1 else 2, true), fun k hk => ⟨?_, ?_⟩⟩
      · unfold spec_WinnerOf.f
        rw [hf1 k (by omega)]
        simp only [Bool.not_false, Option.bind_some, if_true, (hK1 k (by omega)).2]
        split <;> rfl
      · obtain ⟨k, rfl⟩ : ∃ m, k = m + 3 := ⟨k - 3, by omega⟩
        unfold impl_WinnerOf.f impl_winner.f
        rw [hf2 _ (by omega)]
        simp only [Bool.not_false, Option.bind_some, if_true]
        rw [impl_winner.l0, if_pos (by omega), (hK1 _ (by omega)).1]
        simp only [Option.bind_some]
        by_cases hv : v1 = 0
        · rw [if_pos hv]
          have hu : u1 = 0 := by rcases h1 with ⟨e1, e2, _⟩ | ⟨cc, e1, e2, _⟩ <;> omega
          rw [if_pos hu]; rfl
        · rw [if_neg hv]
          have hu : ¬ u1 = 0 := by
            rcases h1 with ⟨e1, e2, _⟩ | ⟨cc, e1, e2, _⟩
            · omega
            · omega
          rw [if_neg hu, show wrap64 (1 + 1) = 2 from by unfold wrap64; omega, impl_winner.l0, if_pos (by omega), (hK2 _ (by omega)).1]
          simp only [Option.bind_some]
          have hw2 : Cost r' q' l 2 0 := by
            rcases hone with h | h
            · exfalso
              rcases h1 with ⟨_, _, n1⟩ | ⟨cc, e1, e2, _, _, m1⟩
              · exact n1 _ h
              · have := m1 _ h; omega
            · exact h
          have hv2 : v2 = 0 := by
            rcases h2' with ⟨_, _, n1⟩ | ⟨cc, e1, e2, _, _, m1⟩
            · exact absurd hw2 (n1 _)
            · have := m1 _ hw2; omega
          rw [if_pos hv2]; rfl
end WinnerOf

theorem FnExactWinnerOf : laws_FnExactWinnerOf.Pure := by
  intro a c l _ _ _ _ _
  by_cases hb : (l.length : Int) > 1048576
  · exact ⟨1, by unfold laws_FnExactWinnerOf.f; rw [if_pos hb]⟩
  · have hm : l.length ≤ 1099511627776 := by omega
    obtain ⟨K0, g, hg⟩ := WinnerOf.same a c l hm
    obtain ⟨K, hK⟩ : ∃ K, l.length + K0 ≤ K := ⟨_, Nat.le_refl _⟩
    refine ⟨K + 3, ?_⟩
    have ht : ∀ k, l.length < k → laws_toIntS.f k l = some l := fun k hk => toIntS_f l hm k hk
    have he : ∀ k, l.length < k → laws_eqIntS.f k l l = some true := fun k hk => by rw [eqIntS_f l l hm k hk]; simp
    obtain ⟨g1, g2⟩ := hg (K + 3) (by omega)
    unfold laws_FnExactWinnerOf.f
    rw [if_neg hb, ht _ (by omega)]
    simp only [Option.bind_some, g1, g2]
    simp [laws_FnExactWinnerOf.j0, ht (K + 2) (by omega), he (K + 2) (by omega)]
end Go.Proofs.Ytenaefpbjblmbaa.Pure
