/- The law FnExactFirstWinningMove answers true for all ints and every list of ints: the program's FirstWinningMove and the reference's return the same, and the list is left alone. No condition. -/
import Derived.Test.YtjajahofbhcioaaQx8
import Derived.Test.YtjajahofbhcioaaPgh
namespace Go.Proofs.Ytjajahofbhcioaa.Pure
open Go.RowKit Go.Proofs.Ytjajahofbhcioaa.Q Go.Proofs.Ytjajahofbhcioaa.Given Go.Proofs.Ytjajahofbhcioaa.Pz Go.Proofs.Ytjajahofbhcioaa.Pm Go.Proofs.Ytjajahofbhcioaa.Ph Go.Proofs.YtjajahofbhcioaaW.PrintWords Go.Proofs.YtjajahofbhcioaaW.PrintLast
set_option linter.unusedVariables false
set_option linter.unusedSimpArgs false

theorem FnExactFirstWinningMove : laws_FnExactFirstWinningMove.Pure := by
  intro a c l p _ _ _ _ _ _
  by_cases hb : (l.length : Int) > 1048576
  · exact ⟨1, by unfold laws_FnExactFirstWinningMove.f; rw [if_pos hb]⟩
  · have hm : l.length ≤ 1099511627776 := by omega
    obtain ⟨K0, g, hg⟩ := Go.Proofs.Ytjajahofbhcioaa.Pgg.first_same a c l p hm
    obtain ⟨K, hK⟩ : ∃ K, l.length + K0 ≤ K := ⟨_, Nat.le_refl _⟩
    refine ⟨K + 3, ?_⟩
    have ht : ∀ k, l.length < k → laws_toIntS.f k l = some l := fun k hk => toIntS_f l hm k hk
    have he : ∀ k, l.length < k → laws_eqIntS.f k l l = some true := fun k hk => by rw [eqIntS_f l l hm k hk]; simp
    obtain ⟨g1, g2⟩ := hg (K + 3) (by omega)
    unfold laws_FnExactFirstWinningMove.f
    rw [if_neg hb, ht _ (by omega)]
    simp only [Option.bind_some, g1, g2]
    simp [laws_FnExactFirstWinningMove.j0, ht (K + 2) (by omega), he (K + 2) (by omega)]
end Go.Proofs.Ytjajahofbhcioaa.Pure
