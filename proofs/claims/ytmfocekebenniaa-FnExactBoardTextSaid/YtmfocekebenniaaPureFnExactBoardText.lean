/- The law FnExactBoardText answers true for all ints and every list of ints: the program's BoardText and the reference's return the same text, and the list is left alone. No condition. -/
import Derived.Test.YtmfocekebenniaaQx3
import Derived.Test.YtmfocekebenniaaOb
namespace Go.Proofs.Ytmfocekebenniaa.Pure
open Go.RowKit Go.Proofs.Ytmfocekebenniaa.Q Go.Proofs.Ytmfocekebenniaa.Given Go.Proofs.Ytmfocekebenniaa.Pz Go.Proofs.Ytmfocekebenniaa.Pm Go.Proofs.Ytmfocekebenniaa.Ph Go.Proofs.Ytmfocekebenniaa.Ob Go.Proofs.YtmfocekebenniaaW.PrintWords Go.Proofs.YtmfocekebenniaaW.PrintLast
set_option linter.unusedVariables false
set_option linter.unusedSimpArgs false
namespace BoardText
theorem same (a c : Int) (l : List Int) (hm : l.length ≤ 1099511627776) : ∃ (K : Nat) (g : ByteArray × Bool), ∀ k, K ≤ k → spec_BoardText.f k a c l = some g ∧ impl_BoardText.f a c l = some g := by
  obtain ⟨bb, _, h2, h3⟩ := board_f a c l hm (l.length + 1) (by omega)
  have hg : ∀ k, l.length + 1 ≤ k → spec_hxGood.f k a c l = some bb := fun k hk => by
    obtain ⟨b2, e1, e2, _⟩ := board_f a c l hm k (by omega)
    rw [e1]; rw [h2] at e2; exact e2.symm
  cases bb with
  | false =>
    refine ⟨l.length + 1, (⟨#[]⟩, false), fun k hk => ⟨?_, ?_⟩⟩
    · unfold spec_BoardText.f; rw [hg k hk]; rfl
    · unfold impl_BoardText.f; rw [h2]; rfl
  | true =>
    obtain ⟨a1, a2, a3⟩ := h3 rfl
    obtain ⟨s1, s2, s3⟩ := shape_of a1
    have hmul : 0 ≤ a * c := Int.mul_nonneg (by omega) (by omega)
    have hmul2 : a * c ≤ 30 * 30 := Int.mul_le_mul s1.2 s2.2 (by omega) (by omega)
    rw [wr (by omega) (by omega)] at a2 s3
    obtain ⟨N, rfl⟩ := Int.eq_ofNat_of_zero_le (show 0 ≤ a by omega)
    obtain ⟨C, rfl⟩ := Int.eq_ofNat_of_zero_le (show 0 ≤ c by omega)
    have hl : l.length = N * C := by exact_mod_cast a2
    have h0 : 0 < l.length := by rw [hl]; exact Nat.mul_pos (by omega) (by omega)
    have hd : ∀ j : Nat, j < l.length → 0 ≤ rd l (j : Nat) ∧ rd l (j : Nat) ≤ 9 := by
      intro j hj
      have he : rd l (j : Nat) = l[j] := by unfold rd; rw [List.getD_eq_getElem?_getD, Int.toNat_natCast, List.getElem?_eq_getElem hj]; rfl
      have := a3 _ (List.getElem_mem hj)
      rw [he]; omega
    refine ⟨l.length + 3, (B (specL l C l.length), true), fun k hk => ?_⟩
    obtain ⟨t1, t2⟩ := text_same l C N (by omega) (by omega) hl h0 (by omega) hd k (by omega)
    refine ⟨?_, ?_⟩
    · unfold spec_BoardText.f; rw [hg k (by omega), Option.bind_some, if_pos rfl, t1]; rfl
    · unfold impl_BoardText.f; rw [h2, Option.bind_some, if_pos rfl, t2]; rfl
end BoardText
theorem FnExactBoardText : laws_FnExactBoardText.Pure := by
  intro a c l _ _ _ _ _
  by_cases hb : (l.length : Int) > 1048576
  · exact ⟨1, by unfold laws_FnExactBoardText.f; rw [if_pos hb]⟩
  · have hm : l.length ≤ 1099511627776 := by omega
    obtain ⟨K0, g, hg⟩ := BoardText.same a c l hm
    obtain ⟨K, hK⟩ : ∃ K, l.length + K0 ≤ K := ⟨_, Nat.le_refl _⟩
    refine ⟨K + 3, ?_⟩
    have ht : ∀ k, l.length < k → laws_toIntS.f k l = some l := fun k hk => toIntS_f l hm k hk
    have he : ∀ k, l.length < k → laws_eqIntS.f k l l = some true := fun k hk => by rw [eqIntS_f l l hm k hk]; simp
    obtain ⟨g1, g2⟩ := hg (K + 3) (by omega)
    unfold laws_FnExactBoardText.f
    rw [if_neg hb, ht _ (by omega)]
    simp only [Option.bind_some, g1, g2]
    simp [laws_FnExactBoardText.j0, ht (K + 2) (by omega), he (K + 2) (by omega)]
end Go.Proofs.Ytmfocekebenniaa.Pure
