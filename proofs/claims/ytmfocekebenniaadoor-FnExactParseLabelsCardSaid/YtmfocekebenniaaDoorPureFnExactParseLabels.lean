/- The law FnExactParseLabels answers true for every text: the program's ParseLabels and the reference's return the same, and what is returned is the caller's own. No condition. -/
import Derived.Test.YtmfocekebenniaaDoorQx5
import Derived.Test.YtmfocekebenniaaDoorOk
namespace Go.Proofs.YtmfocekebenniaaDoor.Pure
open Go.RowKit Go.Proofs.YtmfocekebenniaaDoor.Q Go.Proofs.YtmfocekebenniaaDoor.Given Go.Proofs.YtmfocekebenniaaDoor.Pz Go.Proofs.YtmfocekebenniaaDoorW.PrintWords Go.Proofs.YtmfocekebenniaaDoorW.PrintLast
set_option linter.unusedVariables false
set_option linter.unusedSimpArgs false
theorem FnExactParseLabels : laws_FnExactParseLabels.Pure := by
  intro s _
  by_cases hb : (s.size : Int) > 1048576
  · exact ⟨1, by unfold laws_FnExactParseLabels.f; rw [if_pos hb]⟩
  · obtain ⟨K0, g, hl, hg⟩ := Go.Proofs.YtmfocekebenniaaDoor.Ok.same s (by omega)
    obtain ⟨g0, g2, g3⟩ := g
    obtain ⟨K, hK⟩ : ∃ K, g2.length + K0 + 10 ≤ K := ⟨_, Nat.le_refl _⟩
    refine ⟨K + 3, ?_⟩
    dsimp only at hl
    have ve : ∀ k, g2.length < k → laws_eqIntS.f k g2 g2 = some true := fun k hk => by rw [eqIntS_f g2 g2 (by omega) k (by omega)]; simp
    have vm : ∀ k, g2.length < k → laws_markIntS.f k g2 1 = some (1 + (g2.length : Int), marks 1 g2.length) := fun k hk => markIntS_f g2 1 k (by omega) (by omega) (by omega)
    have vh : ∀ k, g2.length < k → laws_heldIntS.f k (marks 1 g2.length) 1 = some (1 + g2.length) := fun k hk => heldIntS_f g2.length 1 k (by omega) (by omega) (by omega)
    have p1 : ¬ (1 + (g2.length : Int) < 0) := by omega
    unfold laws_FnExactParseLabels.f
    rw [if_neg hb, (hg (K + 3) (by omega)).1, (hg (K + 3) (by omega)).2]
    simp only [Option.bind_some, if_true, ve (K + 3) (by omega)]
    simp [laws_FnExactParseLabels.j0, laws_FnExactParseLabels.j1, vm (K + 2) (by omega), vh (K + 2) (by omega), (hg (K + 2) (by omega)).2, ve (K + 2) (by omega), vh (K + 1) (by omega), p1]
end Go.Proofs.YtmfocekebenniaaDoor.Pure
