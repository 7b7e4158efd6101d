/- The law FnExactIsFull answers true for all arguments: the program's IsFull and the reference's return the same, and the list is left alone. No condition. -/
import Derived.Test.YtcnplmajlanmdaaQx8
import Derived.Test.YtcnplmajlanmdaaPe
namespace Go.Proofs.Ytcnplmajlanmdaa.Pure
open Go.RowKit Go.Proofs.Ytcnplmajlanmdaa.Q Go.Proofs.Ytcnplmajlanmdaa.Given Go.Proofs.Ytcnplmajlanmdaa.Pz Go.Proofs.Ytcnplmajlanmdaa.Pm Go.Proofs.Ytcnplmajlanmdaa.Pn Go.Proofs.Ytcnplmajlanmdaa.Pc Go.Proofs.Ytcnplmajlanmdaa.Pd Go.Proofs.Ytcnplmajlanmdaa.Pe Go.Proofs.YtcnplmajlanmdaaW.PrintWords Go.Proofs.YtcnplmajlanmdaaW.PrintLast

theorem FnExactIsFull : laws_FnExactIsFull.Pure := by
  intro a l c _ _ _ _ _
  by_cases hb : (l.length : Int) > 1048576
  · exact ⟨1, by unfold laws_FnExactIsFull.f; rw [if_pos hb]⟩
  · obtain ⟨K, hK⟩ : ∃ K, l.length + 29997 ≤ K := ⟨_, Nat.le_refl _⟩
    refine ⟨K + 3, ?_⟩
    have hm : l.length ≤ 1099511627776 := by omega
    have ht : ∀ k, l.length < k → laws_toIntS.f k l = some l := fun k hk => toIntS_f l hm k hk
    have he : ∀ k, l.length < k → laws_eqIntS.f k l l = some true := fun k hk => by rw [eqIntS_f l l hm k hk]; simp
    obtain ⟨b, h1, h2, h3⟩ := meLabels_f a l hm (K + 3) (by omega)
    have hg : ∃ g, spec_IsFull.f (K + 3) a l c = some g ∧  impl_IsFull.f (K + 3) a l c = some g := by
      cases b with
      | false =>
        refine ⟨(false, false), ?_, ?_⟩
        · unfold spec_IsFull.f spec_doCell.f
          rw [h1]
          rfl
        · unfold impl_IsFull.f
          rw [houseOf_no h2]
          rfl
      | true =>
        obtain ⟨cs, bd, H⟩ := hse_of h2
        obtain ⟨b, c1, c2, c3⟩ := cell_f (c := c) H.n1 H.n8
        have hsc : spec_doCell.f (K + 3) a l c = some b := by
          unfold spec_doCell.f
          rw [h1]
          simp only [Option.bind_some, if_true]
          rw [c2]
          rfl
        cases b with
        | false =>
          refine ⟨(false, false), ?_, ?_⟩
          · unfold spec_IsFull.f
            rw [hsc]
            rfl
          · unfold impl_IsFull.f
            rw [houseOf_yes h2 H.cls _ (by omega)]
            simp only [Option.bind_some, if_true]
            rw [c1]
            rfl
        | true =>
          obtain ⟨c0, c9⟩ := c3 rfl
          have hcl := H.cls.len
          obtain ⟨f1, f2⟩ := isFull_h H (c := c) c0 (by omega)
          refine ⟨(fl l cs c, true), ?_, ?_⟩
          · unfold spec_IsFull.f
            rw [hsc]
            simp only [Option.bind_some, if_true]
            rw [H.cls.sc _ (by omega)]
            simp only [Option.bind_some]
            rw [if_pos c0, if_pos (by omega), f2 _ (by omega)]
            rfl
          · unfold impl_IsFull.f
            rw [houseOf_yes h2 H.cls _ (by omega)]
            simp only [Option.bind_some, if_true]
            rw [c1]
            simp only [Option.bind_some, if_true]
            rw [f1]
            rfl
    obtain ⟨g, g1, g2⟩ := hg
    unfold laws_FnExactIsFull.f
    rw [if_neg hb, ht _ (by omega)]
    simp only [Option.bind_some, g1, g2]
    simp [laws_FnExactIsFull.j0, ht (K + 2) (by omega), he (K + 2) (by omega)]
end Go.Proofs.Ytcnplmajlanmdaa.Pure
