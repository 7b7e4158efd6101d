/- The law FnExactIsBoard answers true for all ints and every list of ints: the program's IsBoard and the reference's return the same, and the list is left alone. No condition. -/
import Derived.Test.YtenaefpbjblmbaaQx3
import Derived.Test.YtenaefpbjblmbaaPh
namespace Go.Proofs.Ytenaefpbjblmbaa.Pure
open Go.RowKit Go.Proofs.Ytenaefpbjblmbaa.Q Go.Proofs.Ytenaefpbjblmbaa.Given Go.Proofs.Ytenaefpbjblmbaa.Pz Go.Proofs.Ytenaefpbjblmbaa.Pm Go.Proofs.Ytenaefpbjblmbaa.Ph Go.Proofs.YtenaefpbjblmbaaW.PrintWords Go.Proofs.YtenaefpbjblmbaaW.PrintLast

theorem FnExactIsBoard : laws_FnExactIsBoard.Pure := by
  intro a c l _ _ _ _ _
  by_cases hb : (l.length : Int) > 1048576
  · exact ⟨1, by unfold laws_FnExactIsBoard.f; rw [if_pos hb]⟩
  · obtain ⟨K, hK⟩ : ∃ K, l.length + 397 ≤ K := ⟨_, Nat.le_refl _⟩
    refine ⟨K + 3, ?_⟩
    have hm : l.length ≤ 1099511627776 := by omega
    have ht : ∀ k, l.length < k → laws_toIntS.f k l = some l := fun k hk => toIntS_f l hm k hk
    have he : ∀ k, l.length < k → laws_eqIntS.f k l l = some true := fun k hk => by rw [eqIntS_f l l hm k hk]; simp
    obtain ⟨b, h1, h2, h3⟩ := board_f a c l hm (K + 3) (by omega)
    have hg : ∃ g, spec_IsBoard.f (K + 3) a c l = some g ∧ impl_IsBoard.f a c l = some g := by
      refine ⟨(b, hshape a c), ?_, ?_⟩
      · unfold spec_IsBoard.f
        rw [hxSides_f, h1]
        cases hs : hshape a c with
        | true => rfl
        | false =>
          cases b with
          | false => rfl
          | true => have := (h3 rfl).1; rw [hs] at this; cases this
      · unfold impl_IsBoard.f
        rw [h2, isShape_f]
        rfl
    obtain ⟨g, g1, g2⟩ := hg
    unfold laws_FnExactIsBoard.f
    rw [if_neg hb, ht _ (by omega)]
    simp only [Option.bind_some, g1, g2]
    simp [laws_FnExactIsBoard.j0, ht (K + 2) (by omega), he (K + 2) (by omega)]
end Go.Proofs.Ytenaefpbjblmbaa.Pure
