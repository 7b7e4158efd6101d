/- The law FnExactFullCells answers true for all arguments: the program's FullCells and the reference's return the same, and the list is left alone. No condition. -/
import Derived.Test.YtcnplmajlanmdaaQx9
import Derived.Test.YtcnplmajlanmdaaPe
namespace Go.Proofs.Ytcnplmajlanmdaa.Pure
open Go.RowKit Go.Proofs.Ytcnplmajlanmdaa.Q Go.Proofs.Ytcnplmajlanmdaa.Given Go.Proofs.Ytcnplmajlanmdaa.Pz Go.Proofs.Ytcnplmajlanmdaa.Pm Go.Proofs.Ytcnplmajlanmdaa.Pn Go.Proofs.Ytcnplmajlanmdaa.Pc Go.Proofs.Ytcnplmajlanmdaa.Pd Go.Proofs.Ytcnplmajlanmdaa.Pe Go.Proofs.YtcnplmajlanmdaaW.PrintWords Go.Proofs.YtcnplmajlanmdaaW.PrintLast

theorem FnExactFullCells : laws_FnExactFullCells.Pure := by
  intro a l _ _ _ _
  by_cases hb : (l.length : Int) > 1048576
  · exact ⟨1, by unfold laws_FnExactFullCells.f; rw [if_pos hb]⟩
  · obtain ⟨K, hK⟩ : ∃ K, l.length + 29997 ≤ K := ⟨_, Nat.le_refl _⟩
    refine ⟨K + 3, ?_⟩
    have hm : l.length ≤ 1099511627776 := by omega
    have ht : ∀ k, l.length < k → laws_toIntS.f k l = some l := fun k hk => toIntS_f l hm k hk
    have he : ∀ k, l.length < k → laws_eqIntS.f k l l = some true := fun k hk => by rw [eqIntS_f l l hm k hk]; simp
    obtain ⟨b, h1, h2, h3⟩ := meLabels_f a l hm (K + 3) (by omega)
    have hg : ∃ v b, v.length ≤ 64 ∧ spec_FullCells.f (K + 3) a l = some (v, b) ∧ ∀ k, 29000 ≤ k → impl_FullCells.f k a l = some (v, b) := by
      cases b with
      | false =>
        refine ⟨[], false, by simp, ?_, fun k hk => ?_⟩
        · unfold spec_FullCells.f
          rw [h1]
          rfl
        · unfold impl_FullCells.f
          rw [houseOf_no h2]
          rfl
      | true =>
        obtain ⟨cs, bd, H⟩ := hse_of h2
        have hcl := clen H
        have hL := fullL_len l cs cs.length
        refine ⟨fullL l cs cs.length, true, by omega, ?_, fun k hk => ?_⟩
        · unfold spec_FullCells.f
          rw [h1]
          simp only [Option.bind_some, if_true]
          have hs : spec_doAllFull.f (K + 3) a l = some (fullL l cs cs.length) := by
            unfold spec_doAllFull.f
            rw [H.cls.sc _ (by omega)]
            exact allFull_l0 H cs.length (K + 3) 0 (by omega) (by omega) (by omega)
          rw [hs]
          rfl
        · unfold impl_FullCells.f
          rw [houseOf_yes h2 H.cls _ (by omega)]
          simp only [Option.bind_some, if_true]
          have hf : impl_house_full.f k a l cs bd = some (fullL l cs cs.length) := full_l0 H cs.length k 0 (by omega) (by omega) (by omega)
          rw [hf]
          rfl
    obtain ⟨v, b, hv, g1, g2⟩ := hg
    have ve : ∀ k, 64 < k → laws_eqIntS.f k v v = some true := fun k hk => by rw [eqIntS_f v v (by omega) k (by omega)]; simp
    have vm : ∀ k, 64 < k → laws_markIntS.f k v 1 = some (1 + (v.length : Int), marks 1 v.length) := fun k hk => markIntS_f v 1 k (by omega) (by omega) (by omega)
    have vh : ∀ k, 64 < k → laws_heldIntS.f k (marks 1 v.length) 1 = some (1 + v.length) := fun k hk => heldIntS_f v.length 1 k (by omega) (by omega) (by omega)
    have lm : ∀ k, l.length < k → laws_markIntS.f k l 1 = some (1 + (l.length : Int), marks 1 l.length) := fun k hk => markIntS_f l 1 k (by omega) (by omega) (by omega)
    have p0 : ¬ (1 + (l.length : Int) < 0) := by omega
    have p1 : ¬ (1 + (v.length : Int) < 0) := by omega
    unfold laws_FnExactFullCells.f
    rw [if_neg hb, ht _ (by omega)]
    simp only [Option.bind_some, g1, g2 (K + 3) (by omega), ve (K + 3) (by omega), if_true]
    simp [laws_FnExactFullCells.j0, laws_FnExactFullCells.j1, laws_FnExactFullCells.j2, ht (K + 2) (by omega), he (K + 2) (by omega), lm (K + 2) (by omega), ve (K + 2) (by omega), vm (K + 1) (by omega), vh (K + 1) (by omega), vh K (by omega), ht (K + 1) (by omega), g2 (K + 1) (by omega), ve (K + 1) (by omega), p0, p1]
end Go.Proofs.Ytcnplmajlanmdaa.Pure
