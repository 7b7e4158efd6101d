/- The law FnExactSquareBorder answers true for every int n: the program's SquareBorder and the reference's return the same, in memory of their own. No condition. -/
import Derived.Test.YtmdhclpkbopmdaaQx5
namespace Go.Proofs.Ytmdhclpkbopmdaa.Pure
open Go.RowKit Go.Proofs.Ytmdhclpkbopmdaa.Q Go.Proofs.Ytmdhclpkbopmdaa.Given Go.Proofs.YtmdhclpkbopmdaaW.PrintWords Go.Proofs.YtmdhclpkbopmdaaW.PrintLast

namespace SquareBorder
set_option maxRecDepth 100000 in
theorem chk : ∀ n : Int, 1 ≤ n → n ≤ 4 → laws_FnExactSquareBorder.f 500 n = some true := by
  intro n h1 h2
  obtain rfl | rfl | rfl | rfl : n = 1 ∨ n = 2 ∨ n = 3 ∨ n = 4 := by omega
  all_goals decide +kernel
end SquareBorder

theorem FnExactSquareBorder : laws_FnExactSquareBorder.Pure := by
  intro n _
  by_cases hn : 1 ≤ n ∧ n ≤ 4
  · exact ⟨500, SquareBorder.chk n hn.1 hn.2⟩
  · refine ⟨10, ?_⟩
    have hs : ∀ k, spec_SquareBorder.f k n = some ([], false) := fun k => by
      unfold spec_SquareBorder.f spec_opReach.f spec_l1In.f
      by_cases h1 : 1 ≤ n
      · have h2 : ¬ n ≤ 4 := fun h2 => hn ⟨h1, h2⟩
        simp [h1, h2]
      · simp [h1]
    have hi : ∀ k, impl_SquareBorder.f k n = some ([], false) := fun k => by
      unfold impl_SquareBorder.f impl_isReach.f impl_in.f
      by_cases h1 : 1 ≤ n
      · have h2 : ¬ n ≤ 4 := fun h2 => hn ⟨h1, h2⟩
        simp [h1, h2]
      · simp [h1]
    unfold laws_FnExactSquareBorder.f
    rw [hs, hi]
    simp [laws_FnExactSquareBorder.j0, laws_FnExactSquareBorder.j1, hi, laws_eqIntS.f, laws_eqIntS.l0, laws_markIntS.f, laws_markIntS.l0, laws_heldIntS.f, laws_heldIntS.l0]
end Go.Proofs.Ytmdhclpkbopmdaa.Pure
