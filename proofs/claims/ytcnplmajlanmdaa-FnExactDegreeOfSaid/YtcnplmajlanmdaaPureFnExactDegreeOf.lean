/- The law FnExactDegreeOf answers true for all arguments: the program's DegreeOf and the reference's return the same, and the list is left alone. No condition. -/
import Derived.Test.YtcnplmajlanmdaaQx10
import Derived.Test.YtcnplmajlanmdaaPe
namespace Go.Proofs.Ytcnplmajlanmdaa.Pure
open Go.RowKit Go.Proofs.Ytcnplmajlanmdaa.Q Go.Proofs.Ytcnplmajlanmdaa.Given Go.Proofs.Ytcnplmajlanmdaa.Pz Go.Proofs.Ytcnplmajlanmdaa.Pm Go.Proofs.Ytcnplmajlanmdaa.Pn Go.Proofs.Ytcnplmajlanmdaa.Pc Go.Proofs.Ytcnplmajlanmdaa.Pd Go.Proofs.Ytcnplmajlanmdaa.Pe Go.Proofs.YtcnplmajlanmdaaW.PrintWords Go.Proofs.YtcnplmajlanmdaaW.PrintLast

theorem FnExactDegreeOf : laws_FnExactDegreeOf.Pure := by
  intro a l _ _ _ _
  by_cases hb : (l.length : Int) > 1048576
  · exact ⟨1, by unfold laws_FnExactDegreeOf.f; rw [if_pos hb]⟩
  · obtain ⟨K, hK⟩ : ∃ K, l.length + 29997 ≤ K := ⟨_, Nat.le_refl _⟩
    refine ⟨K + 3, ?_⟩
    have hm : l.length ≤ 1099511627776 := by omega
    have ht : ∀ k, l.length < k → laws_toIntS.f k l = some l := fun k hk => toIntS_f l hm k hk
    have he : ∀ k, l.length < k → laws_eqIntS.f k l l = some true := fun k hk => by rw [eqIntS_f l l hm k hk]; simp
    obtain ⟨b, h1, h2, h3⟩ := meLabels_f a l hm (K + 3) (by omega)
    have hg : ∃ g, spec_DegreeOf.f (K + 3) a l = some g ∧  impl_DegreeOf.f (K + 3) a l = some g := by
      cases b with
      | false =>
        refine ⟨(0, false), ?_, ?_⟩
        · unfold spec_DegreeOf.f
          rw [h1]
          rfl
        · unfold impl_DegreeOf.f
          rw [houseOf_no h2]
          rfl
      | true =>
        obtain ⟨cs, bd, H⟩ := hse_of h2
        obtain ⟨up, hup⟩ := sign_h H
        have hcl := clen H
        refine ⟨(degS l cs up cs.length, true), ?_, ?_⟩
        · unfold spec_DegreeOf.f
          rw [h1]
          simp only [Option.bind_some, if_true]
          rw [H.cls.sc _ (by omega)]
          exact sdeg_l0 H hup cs.length (K + 3) 0 (by omega) (by omega) (by omega)
        · unfold impl_DegreeOf.f
          rw [houseOf_yes h2 H.cls _ (by omega)]
          simp only [Option.bind_some, if_true]
          have hf : impl_house_full.f (K + 3) a l cs bd = some (fullL l cs cs.length) := full_l0 H cs.length (K + 3) 0 (by omega) (by omega) (by omega)
          have hL := fullL_len l cs cs.length
          have hd := deg_l0 hup (fullL l cs cs.length) (fullL_mem l cs cs.length) (by omega) (fullL l cs cs.length).length (K + 3) 0 0 (by omega) (by omega) (by omega)
          rw [List.drop_zero, degS_fold] at hd
          rw [hf]
          exact hd
    obtain ⟨g, g1, g2⟩ := hg
    unfold laws_FnExactDegreeOf.f
    rw [if_neg hb, ht _ (by omega)]
    simp only [Option.bind_some, g1, g2]
    simp [laws_FnExactDegreeOf.j0, ht (K + 2) (by omega), he (K + 2) (by omega)]
end Go.Proofs.Ytcnplmajlanmdaa.Pure
