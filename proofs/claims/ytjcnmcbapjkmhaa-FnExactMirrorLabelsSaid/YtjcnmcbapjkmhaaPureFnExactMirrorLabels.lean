/- The law FnExactMirrorLabels answers true for every int n and every list of ints: the program's MirrorLabels and the reference's return the same, in memory of their own, and the list is left alone. No condition. -/
import Derived.Test.YtjcnmcbapjkmhaaQx18
import Derived.Test.YtjcnmcbapjkmhaaPv
namespace Go.Proofs.Ytjcnmcbapjkmhaa.Pure
open Go.RowKit Go.Proofs.Ytjcnmcbapjkmhaa.Q Go.Proofs.Ytjcnmcbapjkmhaa.Given Go.Proofs.Ytjcnmcbapjkmhaa.Pz Go.Proofs.Ytjcnmcbapjkmhaa.Pm Go.Proofs.Ytjcnmcbapjkmhaa.Pn Go.Proofs.Ytjcnmcbapjkmhaa.Pv Go.Proofs.YtjcnmcbapjkmhaaW.PrintWords Go.Proofs.YtjcnmcbapjkmhaaW.PrintLast

theorem FnExactMirrorLabels : laws_FnExactMirrorLabels.Pure := by
  intro a l _ _ _ _
  by_cases hb : (l.length : Int) > 1048576
  · exact ⟨1, by unfold laws_FnExactMirrorLabels.f; rw [if_pos hb]⟩
  · refine ⟨l.length + 400, ?_⟩
    have hm : l.length ≤ 1099511627776 := by omega
    have ht : ∀ k, l.length < k → laws_toIntS.f k l = some l := fun k hk => toIntS_f l hm k hk
    have he : ∀ k, l.length < k → laws_eqIntS.f k l l = some true := fun k hk => by rw [eqIntS_f l l hm k hk]; simp
    obtain ⟨b, h1, h2, h3⟩ := meLabels_f a l hm (l.length + 400) (by omega)
    have hg : ∃ v b, v.length ≤ 45 ∧ spec_MirrorLabels.f (l.length + 400) a l = some (v, b) ∧ ∀ k, 100 ≤ k → impl_MirrorLabels.f k a l = some (v, b) := by
      cases b with
      | false =>
        refine ⟨[], false, by simp, ?_, fun k _ => movF_none h2⟩
        unfold spec_MirrorLabels.f
        rw [h1]
        rfl
      | true =>
        obtain ⟨n1, n2, hc, hl⟩ := labels_of h2 rfl
        obtain ⟨ps, hp⟩ := pts_of n1 n2
        have c45 := cnt_le n1 n2
        refine ⟨_, true, ?_, ?_, fun k hk => movF_some hk hp h2 c45 hc (posM n1 n2)⟩
        · rw [movL_len]; exact c45
        · unfold spec_MirrorLabels.f
          rw [h1]
          simp only [Option.bind_some, if_true]
          exact mirror_l0 hp c45 hc hl (posM n1 n2) (cnt a) (l.length + 400) 0 (by omega) (by omega) (by omega)
    obtain ⟨v, b, hv, g1, g2⟩ := hg
    have ve : ∀ k, 45 < k → laws_eqIntS.f k v v = some true := fun k hk => by rw [eqIntS_f v v (by omega) k (by omega)]; simp
    have vm : ∀ k, 45 < k → laws_markIntS.f k v 1 = some (1 + (v.length : Int), marks 1 v.length) := fun k hk => markIntS_f v 1 k (by omega) (by omega) (by omega)
    have vh : ∀ k, 45 < k → laws_heldIntS.f k (marks 1 v.length) 1 = some (1 + (v.length : Int)) := fun k hk => heldIntS_f v.length 1 k (by omega) (by omega) (by omega)
    have lm : ∀ k, l.length < k → laws_markIntS.f k l 1 = some (1 + (l.length : Int), marks 1 l.length) := fun k hk => markIntS_f l 1 k (by omega) (by omega) (by omega)
    have p0 : ¬ (1 + (l.length : Int) < 0) := by omega
    have p1 : ¬ (1 + (v.length : Int) < 0) := by omega
    unfold laws_FnExactMirrorLabels.f
    rw [if_neg hb, ht _ (by omega)]
    simp only [Option.bind_some, g1, g2 (l.length + 400) (by omega), ve (l.length + 400) (by omega), if_true]
    simp [laws_FnExactMirrorLabels.j0, laws_FnExactMirrorLabels.j1, laws_FnExactMirrorLabels.j2, ht (l.length + 399) (by omega), he (l.length + 399) (by omega), lm (l.length + 399) (by omega), ve (l.length + 399) (by omega), vm (l.length + 398) (by omega), vh (l.length + 398) (by omega), vh (l.length + 397) (by omega), ht (l.length + 398) (by omega), g2 (l.length + 398) (by omega), ve (l.length + 398) (by omega), p0, p1]
end Go.Proofs.Ytjcnmcbapjkmhaa.Pure
