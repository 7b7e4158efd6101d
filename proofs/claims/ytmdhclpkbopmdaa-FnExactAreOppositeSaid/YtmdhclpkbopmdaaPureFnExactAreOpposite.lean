/- The law FnExactAreOpposite answers true for every int n and every list of ints: the program's AreOpposite and the reference's return the same, and the list is left alone. No condition. -/
import Derived.Test.YtmdhclpkbopmdaaQx9
import Derived.Test.YtmdhclpkbopmdaaPo
import Derived.Test.YtmdhclpkbopmdaaGl
namespace Go.Proofs.Ytmdhclpkbopmdaa.Pure
open Go.RowKit Go.Proofs.Ytmdhclpkbopmdaa.Q Go.Proofs.Ytmdhclpkbopmdaa.Given Go.Proofs.Ytmdhclpkbopmdaa.Pz Go.Proofs.Ytmdhclpkbopmdaa.Pm Go.Proofs.Ytmdhclpkbopmdaa.Po Go.Proofs.YtmdhclpkbopmdaaW.PrintWords Go.Proofs.YtmdhclpkbopmdaaW.PrintLast

namespace AreOpposite
def bdChk (n : Int) : Bool := match impl_square_border.f 300 n, spec_opBorder.f 300 n with
  | some a, some b => a == b && a.all fun i => (decide (0 ≤ i) && decide (i < signs n)) && (decide (0 ≤ wrap64 ((signs n - 1) - i)) && decide (wrap64 ((signs n - 1) - i) < signs n))
  | _, _ => false
set_option maxRecDepth 100000 in
theorem bd_chk {n : Int} (h1 : 1 ≤ n) (h2 : n ≤ 4) : bdChk n = true := by
  obtain rfl | rfl | rfl | rfl : n = 1 ∨ n = 2 ∨ n = 3 ∨ n = 4 := by omega
  all_goals decide +kernel
theorem bd_of {n : Int} (h1 : 1 ≤ n) (h2 : n ≤ 4) : ∃ bd, (∀ k, 300 ≤ k → impl_square_border.f k n = some bd ∧ spec_opBorder.f k n = some bd) ∧ ∀ i ∈ bd, (0 ≤ i ∧ i < signs n) ∧ 0 ≤ wrap64 ((signs n - 1) - i) ∧ wrap64 ((signs n - 1) - i) < signs n := by
  have h := bd_chk h1 h2
  unfold bdChk at h
  cases ha : impl_square_border.f 300 n with
  | none => rw [ha] at h; simp at h
  | some a =>
    cases hb : spec_opBorder.f 300 n with
    | none => rw [ha, hb] at h; simp at h
    | some b =>
      rw [ha, hb] at h
      simp only [Bool.and_eq_true, beq_iff_eq, List.all_eq_true, decide_eq_true_eq] at h
      obtain ⟨rfl, h⟩ := h
      exact ⟨a, fun k hk => ⟨at_rounds (g := fun k => impl_square_border.f k n) (fun k => impl_square_border.mono _ _) hk ha, at_rounds (g := fun k => spec_opBorder.f k n) (fun k => spec_opBorder.mono _ _) hk hb⟩, h⟩
theorem signs_le {n : Int} (h1 : 1 ≤ n) (h2 : n ≤ 4) : 9 ≤ signs n ∧ signs n ≤ 81 := by
  obtain rfl | rfl | rfl | rfl : n = 1 ∨ n = 2 ∨ n = 3 ∨ n = 4 := by omega
  all_goals decide +kernel
end AreOpposite

theorem FnExactAreOpposite : laws_FnExactAreOpposite.Pure := by
  intro a l _ _ _ _
  by_cases hb : (l.length : Int) > 1048576
  · exact ⟨1, by unfold laws_FnExactAreOpposite.f; rw [if_pos hb]⟩
  · obtain ⟨K, hK⟩ : ∃ K, l.length + 397 ≤ K := ⟨_, Nat.le_refl _⟩
    refine ⟨K + 3, ?_⟩
    have hm : l.length ≤ 1099511627776 := by omega
    have ht : ∀ k, l.length < k → laws_toIntS.f k l = some l := fun k hk => toIntS_f l hm k hk
    have he : ∀ k, l.length < k → laws_eqIntS.f k l l = some true := fun k hk => by rw [eqIntS_f l l hm k hk]; simp
    obtain ⟨b, h1, h2, h3⟩ := opLabels_f a l hm (K + 3) (by omega)
    have hr : spec_opReach.f a = some (inRange a 1 4) := by unfold spec_opReach.f; rw [l1In_f]; rfl
    have hr' : impl_isReach.f a = some (inRange a 1 4) := by unfold impl_isReach.f; rw [in_f]; rfl
    have hg : ∃ g, spec_AreOpposite.f (K + 3) a l = some g ∧ impl_AreOpposite.f (K + 3) a l = some g := by
      cases b with
      | false =>
        have hs : spec_opIs.f (K + 3) a l = some false := by unfold spec_opIs.f; rw [h1]; rfl
        have hi : impl_areOpposite.f (K + 3) a l = some false := by unfold impl_areOpposite.f; rw [h2]; rfl
        refine ⟨(false, inRange a 1 4), ?_, ?_⟩
        · unfold spec_AreOpposite.f
          rw [hr, hs]
          cases inRange a 1 4 <;> rfl
        · unfold impl_AreOpposite.f
          rw [hi, hr']
          rfl
      | true =>
        obtain ⟨⟨a1, a4⟩, hl, _⟩ := h3 rfl
        have hin : inRange a 1 4 = true := by unfold inRange; simp [a1, a4]
        obtain ⟨bd, b1, b2⟩ := AreOpposite.bd_of a1 a4
        have hsg := AreOpposite.signs_le a1 a4
        have hw : wrap64 (signs a - 1) = (l.length : Int) - 1 := by rw [hl, wr (by omega) (by omega)]
        have hs : spec_opIs.f (K + 3) a l = some (!(bd.any (unop l))) := by
          unfold spec_opIs.f
          rw [h1]
          simp only [Option.bind_some, if_true]
          rw [(b1 _ (by omega)).2]
          simp only [Option.bind_some]
          rw [show spec_opCount.f a = some (signs a) from rfl]
          simp only [Option.bind_some]
          rw [hw, if_pos (by rw [hl]; exact b2)]
          rfl
        have hi : impl_areOpposite.f (K + 3) a l = some (!(bd.any (unop l))) := by
          unfold impl_areOpposite.f
          rw [h2]
          simp only [Option.bind_some, if_true]
          rw [(b1 _ (by omega)).1]
          simp only [Option.bind_some]
          rw [if_pos (by rw [hl]; exact b2)]
        refine ⟨(!(bd.any (unop l)), true), ?_, ?_⟩
        · unfold spec_AreOpposite.f
          rw [hr, hin, hs]
          rfl
        · unfold impl_AreOpposite.f
          rw [hi, hr', hin]
          rfl
    obtain ⟨g, g1, g2⟩ := hg
    unfold laws_FnExactAreOpposite.f
    rw [if_neg hb, ht _ (by omega)]
    simp only [Option.bind_some, g1, g2]
    simp [laws_FnExactAreOpposite.j0, ht (K + 2) (by omega), he (K + 2) (by omega)]
end Go.Proofs.Ytmdhclpkbopmdaa.Pure
