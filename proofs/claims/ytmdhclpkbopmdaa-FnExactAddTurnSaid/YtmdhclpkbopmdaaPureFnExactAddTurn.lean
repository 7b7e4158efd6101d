/- The law FnExactAddTurn answers true for every int n and every list of ints: the program's AddTurn and the reference's return the same, in memory of their own, and the list is left alone. No condition. -/
import Derived.Test.YtmdhclpkbopmdaaQx16
import Derived.Test.YtmdhclpkbopmdaaPo
namespace Go.Proofs.Ytmdhclpkbopmdaa.Pure
open Go.RowKit Go.Proofs.Ytmdhclpkbopmdaa.Q Go.Proofs.Ytmdhclpkbopmdaa.Given Go.Proofs.Ytmdhclpkbopmdaa.Pz Go.Proofs.Ytmdhclpkbopmdaa.Pm Go.Proofs.Ytmdhclpkbopmdaa.Po Go.Proofs.YtmdhclpkbopmdaaW.PrintWords Go.Proofs.YtmdhclpkbopmdaaW.PrintLast

theorem FnExactAddTurn : laws_FnExactAddTurn.Pure := by
  intro a l _ _ _ _
  by_cases hb : (l.length : Int) > 1048576
  · exact ⟨1, by unfold laws_FnExactAddTurn.f; rw [if_pos hb]⟩
  · refine ⟨l.length + 400, ?_⟩
    have hm : l.length ≤ 1099511627776 := by omega
    have ht : ∀ k, l.length < k → laws_toIntS.f k l = some l := fun k hk => toIntS_f l hm k hk
    have he : ∀ k, l.length < k → laws_eqIntS.f k l l = some true := fun k hk => by rw [eqIntS_f l l hm k hk]; simp
    obtain ⟨b, h1, h2, h3⟩ := opLabels_f a l hm (l.length + 400) (by omega)
    have hg : ∃ v b, v.length ≤ l.length ∧ spec_AddTurn.f (l.length + 400) a l = some (v, b) ∧ impl_AddTurn.f a l = some (v, b) := by
      cases b with
      | false =>
        refine ⟨[], false, by simp, ?_, ?_⟩
        · unfold spec_AddTurn.f
          rw [h1]
          rfl
        · unfold impl_AddTurn.f mapF
          rw [h2]
          rfl
      | true =>
        refine ⟨l.map turn, true, by simp, ?_, ?_⟩
        · unfold spec_AddTurn.f
          rw [h1]
          simp only [Option.bind_some, if_true]
          exact turn_l0 l hm (h3 rfl).2.2 l.length (l.length + 400) 0 (by omega) (by omega) (by omega)
        · unfold impl_AddTurn.f mapF
          rw [h2]
          rfl
    obtain ⟨v, b, hv, g1, g2⟩ := hg
    have ve : ∀ k, l.length < k → laws_eqIntS.f k v v = some true := fun k hk => by rw [eqIntS_f v v (by omega) k (by omega)]; simp
    have vm : ∀ k, l.length < k → laws_markIntS.f k v 1 = some (1 + (v.length : Int), marks 1 v.length) := fun k hk => markIntS_f v 1 k (by omega) (by omega) (by omega)
    have vh : ∀ k, l.length < k → laws_heldIntS.f k (marks 1 v.length) 1 = some (1 + v.length) := fun k hk => heldIntS_f v.length 1 k (by omega) (by omega) (by omega)
    have lm : ∀ k, l.length < k → laws_markIntS.f k l 1 = some (1 + (l.length : Int), marks 1 l.length) := fun k hk => markIntS_f l 1 k (by omega) (by omega) (by omega)
    have p0 : ¬ (1 + (l.length : Int) < 0) := by omega
    have p1 : ¬ (1 + (v.length : Int) < 0) := by omega
    unfold laws_FnExactAddTurn.f
    rw [if_neg hb, ht _ (by omega)]
    simp only [Option.bind_some, g1, g2, ve (l.length + 400) (by omega), if_true]
    simp [laws_FnExactAddTurn.j0, laws_FnExactAddTurn.j1, laws_FnExactAddTurn.j2, ht (l.length + 399) (by omega), he (l.length + 399) (by omega), lm (l.length + 399) (by omega), ve (l.length + 399) (by omega), vm (l.length + 398) (by omega), vh (l.length + 398) (by omega), vh (l.length + 397) (by omega), ht (l.length + 398) (by omega), g2, ve (l.length + 398) (by omega), p0, p1]
end Go.Proofs.Ytmdhclpkbopmdaa.Pure
