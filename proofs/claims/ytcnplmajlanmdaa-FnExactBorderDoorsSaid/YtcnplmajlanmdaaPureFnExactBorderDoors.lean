/- The law FnExactBorderDoors answers true for all ints and every list of ints: the program's BorderDoors and the reference's return the same, in memory of their own, and the list is left alone. No condition. -/
import Derived.Test.YtcnplmajlanmdaaLwBorderDoors
import Derived.Test.YtcnplmajlanmdaaPl
namespace Go.Proofs.Ytcnplmajlanmdaa.Pure
open Go.RowKit Go.Proofs.Ytcnplmajlanmdaa.Q Go.Proofs.Ytcnplmajlanmdaa.Given Go.Proofs.Ytcnplmajlanmdaa.Pz Go.Proofs.Ytcnplmajlanmdaa.Pm Go.Proofs.Ytcnplmajlanmdaa.Pn Go.Proofs.Ytcnplmajlanmdaa.Pk Go.Proofs.Ytcnplmajlanmdaa.Pg Go.Proofs.Ytcnplmajlanmdaa.Pl Go.Proofs.YtcnplmajlanmdaaW.PrintWords Go.Proofs.YtcnplmajlanmdaaW.PrintLast
set_option linter.unusedVariables false
set_option linter.unusedSimpArgs false

theorem FnExactBorderDoors : laws_FnExactBorderDoors.Pure := by
  intro a l _ _ _ _ hb
  have hm : l.length ≤ 1099511627776 := by omega
  obtain ⟨K, hK⟩ : ∃ K, l.length + 30000 ≤ K := ⟨_, Nat.le_refl _⟩
  obtain ⟨b, h1, h2, h3⟩ := meLabels_f a l hm K (by omega)
  cases b with
  | false =>
    refine ⟨K, ([], false), ?_, ?_, ⟨by simp, by simp⟩⟩
    · unfold spec_BorderDoors.f; rw [h1]; simp
    · unfold impl_BorderDoors.f; rw [houseOf_no h2]; simp
  | true =>
    obtain ⟨cs, bd, H⟩ := hse_of h2
    have B := brd_of H
    refine ⟨K, (doorsL l bd, true), ?_, ?_, ?_, ?_⟩
    · unfold spec_BorderDoors.f
      rw [h1, Option.bind_some, if_pos rfl, doBorder_f H K (by omega), Option.bind_some]
    · unfold impl_BorderDoors.f
      rw [houseOf_yes h2 H.cls K (by omega), Option.bind_some]
      simp only [if_true]
      rw [entries_f B K (by omega), Option.bind_some]
    · have := doorsL_len l bd
      have := B.bl
      show (doorsL l bd).length ≤ 10000
      omega
    · intro r hr
      rw [(doorsL_in B r hr).1]
      decide
end Go.Proofs.Ytcnplmajlanmdaa.Pure
