/- The law FnExactAreLabels answers true for every int n and every list of ints: the program's AreLabels and the reference's return the same, and the list is left alone. No condition. -/
import Derived.Test.YtjcnmcbapjkmhaaQx8
import Derived.Test.YtjcnmcbapjkmhaaPm
namespace Go.Proofs.Ytjcnmcbapjkmhaa.Pure
open Go.RowKit Go.Proofs.Ytjcnmcbapjkmhaa.Q Go.Proofs.Ytjcnmcbapjkmhaa.Given Go.Proofs.Ytjcnmcbapjkmhaa.Pz Go.Proofs.Ytjcnmcbapjkmhaa.Pm Go.Proofs.YtjcnmcbapjkmhaaW.PrintWords Go.Proofs.YtjcnmcbapjkmhaaW.PrintLast

theorem FnExactAreLabels : laws_FnExactAreLabels.Pure := by
  intro a l _ _ _ _
  by_cases hb : (l.length : Int) > 1048576
  · exact ⟨1, by unfold laws_FnExactAreLabels.f; rw [if_pos hb]⟩
  · refine ⟨l.length + 10, ?_⟩
    have hm : l.length ≤ 1099511627776 := by omega
    have ht : ∀ k, l.length < k → laws_toIntS.f k l = some l := fun k hk => toIntS_f l hm k hk
    have he : ∀ k, l.length < k → laws_eqIntS.f k l l = some true := fun k hk => by rw [eqIntS_f l l hm k hk]; simp
    obtain ⟨b, h1, h2, h3⟩ := meLabels_f a l hm (l.length + 10) (by omega)
    unfold laws_FnExactAreLabels.f spec_AreLabels.f impl_AreLabels.f
    rw [if_neg hb, ht _ (by omega)]
    simp only [Option.bind_some, meSide_f, isSide_f, h1, h2]
    have hj : laws_FnExactAreLabels.j0 (l.length + 10) l l false = some true := by
      simp only [laws_FnExactAreLabels.j0, ht (l.length + 9) (by omega), he (l.length + 9) (by omega), Option.bind_some]
      rfl
    cases hs : inRange a 1 8
    · simp [h3 hs, hj]
    · simp [hj]
end Go.Proofs.Ytjcnmcbapjkmhaa.Pure
