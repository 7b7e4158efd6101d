/- The law FnExactBorderOf answers true for every int n: the program's BorderOf and the reference's return the same, in memory of their own. No condition. -/
import Derived.Test.YtjcnmcbapjkmhaaQx16
import Derived.Test.YtjcnmcbapjkmhaaPm
namespace Go.Proofs.Ytjcnmcbapjkmhaa.Pure
open Go.RowKit Go.Proofs.Ytjcnmcbapjkmhaa.Q Go.Proofs.Ytjcnmcbapjkmhaa.Given Go.Proofs.Ytjcnmcbapjkmhaa.Pz Go.Proofs.Ytjcnmcbapjkmhaa.Pm Go.Proofs.YtjcnmcbapjkmhaaW.PrintWords Go.Proofs.YtjcnmcbapjkmhaaW.PrintLast

namespace BorderOf
set_option maxRecDepth 100000 in
theorem chk : ∀ n : Int, 1 ≤ n → n ≤ 8 → laws_FnExactBorderOf.f 500 n = some true := by
  intro n h1 h2
  obtain rfl | rfl | rfl | rfl | rfl | rfl | rfl | rfl : n = 1 ∨ n = 2 ∨ n = 3 ∨ n = 4 ∨ n = 5 ∨ n = 6 ∨ n = 7 ∨ n = 8 := by omega
  all_goals decide +kernel
end BorderOf

theorem FnExactBorderOf : laws_FnExactBorderOf.Pure := by
  intro n _
  by_cases hn : 1 ≤ n ∧ n ≤ 8
  · exact ⟨500, BorderOf.chk n hn.1 hn.2⟩
  · refine ⟨10, ?_⟩
    have hf : inRange n 1 8 = false := by
      rw [Bool.eq_false_iff]
      intro h
      unfold inRange at h
      exact hn (by simpa using h)
    have hs : ∀ k, spec_BorderOf.f k n = some ([], false) := fun k => by
      unfold spec_BorderOf.f
      rw [meSide_f, hf]
      rfl
    have hi : ∀ k, impl_BorderOf.f k n = some ([], false) := fun k => by
      unfold impl_BorderOf.f
      rw [isSide_f, hf]
      rfl
    unfold laws_FnExactBorderOf.f
    rw [hs, hi]
    simp [laws_FnExactBorderOf.j0, laws_FnExactBorderOf.j1, hi, laws_eqIntS.f, laws_eqIntS.l0, laws_markIntS.f, laws_markIntS.l0, laws_heldIntS.f, laws_heldIntS.l0]
end Go.Proofs.Ytjcnmcbapjkmhaa.Pure
