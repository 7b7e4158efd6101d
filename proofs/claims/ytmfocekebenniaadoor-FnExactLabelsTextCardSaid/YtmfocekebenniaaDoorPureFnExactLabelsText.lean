/- The law FnExactLabelsText answers true for all ints and every list of ints: the program's LabelsText and the reference's return the same text, and the list is left alone. No condition. -/
import Derived.Test.YtmfocekebenniaaDoorQx3
import Derived.Test.YtmfocekebenniaaDoorOm
namespace Go.Proofs.YtmfocekebenniaaDoor.Pure
open Go.RowKit Go.Proofs.YtmfocekebenniaaDoor.Q Go.Proofs.YtmfocekebenniaaDoor.Given Go.Proofs.YtmfocekebenniaaDoor.Pz Go.Proofs.YtmfocekebenniaaDoor.Pm Go.Proofs.YtmfocekebenniaaDoor.Om Go.Proofs.YtmfocekebenniaaDoorW.PrintWords Go.Proofs.YtmfocekebenniaaDoorW.PrintLast
set_option linter.unusedVariables false
set_option linter.unusedSimpArgs false
namespace LabelsText
theorem same (a : Int) (l : List Int) (hm : l.length ≤ 1099511627776) : ∃ (K : Nat) (g : ByteArray × Bool), ∀ k, K ≤ k → spec_LabelsText.f k a l = some g ∧ impl_LabelsText.f a l = some g := by
  obtain ⟨b, h1, h2, h3⟩ := labels_f a l hm
  cases b with
  | false =>
    refine ⟨l.length + 1, (⟨#[]⟩, false), fun k hk => ⟨?_, ?_⟩⟩
    · unfold spec_LabelsText.f; rw [h1 k (by omega)]; rfl
    · unfold impl_LabelsText.f; rw [h2]; rfl
  | true =>
    obtain ⟨n, rfl, k1, k2, k3, k4⟩ := h3 rfl
    obtain ⟨r, t1, t2⟩ := text_same n l k1 k2 k3 k4
    refine ⟨l.length + 2000, (r, true), fun k hk => ⟨?_, ?_⟩⟩
    · unfold spec_LabelsText.f; rw [h1 k (by omega), Option.bind_some, if_pos rfl, t1 k (by omega)]; rfl
    · unfold impl_LabelsText.f; rw [h2, Option.bind_some, if_pos rfl, t2]; rfl
end LabelsText
theorem FnExactLabelsText : laws_FnExactLabelsText.Pure := by
  intro a l _ _ _ _
  by_cases hb : (l.length : Int) > 1048576
  · exact ⟨1, by unfold laws_FnExactLabelsText.f; rw [if_pos hb]⟩
  · have hm : l.length ≤ 1099511627776 := by omega
    obtain ⟨K0, g, hg⟩ := LabelsText.same a l hm
    obtain ⟨K, hK⟩ : ∃ K, l.length + K0 ≤ K := ⟨_, Nat.le_refl _⟩
    refine ⟨K + 3, ?_⟩
    have ht : ∀ k, l.length < k → laws_toIntS.f k l = some l := fun k hk => toIntS_f l hm k hk
    have he : ∀ k, l.length < k → laws_eqIntS.f k l l = some true := fun k hk => by rw [eqIntS_f l l hm k hk]; simp
    obtain ⟨g1, g2⟩ := hg (K + 3) (by omega)
    unfold laws_FnExactLabelsText.f
    rw [if_neg hb, ht _ (by omega)]
    simp only [Option.bind_some, g1, g2]
    simp [laws_FnExactLabelsText.j0, ht (K + 2) (by omega), he (K + 2) (by omega)]
end Go.Proofs.YtmfocekebenniaaDoor.Pure
