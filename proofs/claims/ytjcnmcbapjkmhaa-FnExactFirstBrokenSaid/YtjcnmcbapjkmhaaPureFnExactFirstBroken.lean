/- The law FnExactFirstBroken answers true for every int n and every list of ints: the program's FirstBroken and the reference's return the same, and the list is left alone. No condition. -/
import Derived.Test.YtjcnmcbapjkmhaaQx13
import Derived.Test.YtjcnmcbapjkmhaaPb
namespace Go.Proofs.Ytjcnmcbapjkmhaa.Pure
open Go.RowKit Go.Proofs.Ytjcnmcbapjkmhaa.Q Go.Proofs.Ytjcnmcbapjkmhaa.Given Go.Proofs.Ytjcnmcbapjkmhaa.Pz Go.Proofs.Ytjcnmcbapjkmhaa.Pm Go.Proofs.Ytjcnmcbapjkmhaa.Pn Go.Proofs.Ytjcnmcbapjkmhaa.Pb Go.Proofs.YtjcnmcbapjkmhaaW.PrintWords Go.Proofs.YtjcnmcbapjkmhaaW.PrintLast

theorem FnExactFirstBroken : laws_FnExactFirstBroken.Pure := by
  intro a l _ _ _ _
  by_cases hb : (l.length : Int) > 1048576
  · exact ⟨1, by unfold laws_FnExactFirstBroken.f; rw [if_pos hb]⟩
  · refine ⟨l.length + 400, ?_⟩
    have hm : l.length ≤ 1099511627776 := by omega
    have ht : ∀ k, l.length < k → laws_toIntS.f k l = some l := fun k hk => toIntS_f l hm k hk
    have he : ∀ k, l.length < k → laws_eqIntS.f k l l = some true := fun k hk => by rw [eqIntS_f l l hm k hk]; simp
    obtain ⟨b, h1, h2, h3⟩ := meLabels_f a l hm (l.length + 400) (by omega)
    have hg : ∃ g, spec_FirstBroken.f (l.length + 400) a l = some g ∧ impl_FirstBroken.f (l.length + 400) a l = some g := by
      unfold spec_FirstBroken.f impl_FirstBroken.f
      rw [h1, h2]
      cases b with
      | false => exact ⟨_, rfl, rfl⟩
      | true =>
        obtain ⟨n1, n2, hc, hl⟩ := labels_of h2 rfl
        obtain ⟨r, hr, hk⟩ := broken_f ⟨n1, n2⟩ hc hl
        obtain ⟨k1, k2⟩ := hk (l.length + 400) (by omega)
        rcases hr with rfl | hr
        · simp [k1, k2, mx]
        · have e1 : ¬ r < 0 := by omega
          have e2 : mx r 0 = r := by unfold mx; rw [if_neg e1]
          simp [k1, k2, e2, hr, e1]
    obtain ⟨g, g1, g2⟩ := hg
    unfold laws_FnExactFirstBroken.f
    rw [if_neg hb, ht _ (by omega)]
    simp only [Option.bind_some, g1, g2]
    simp [laws_FnExactFirstBroken.j0, ht (l.length + 399) (by omega), he (l.length + 399) (by omega)]
end Go.Proofs.Ytjcnmcbapjkmhaa.Pure
