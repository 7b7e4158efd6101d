/- Plain lemmas: the reference's and the program's tests of ranges, sides and labels say the same, for all numbers and lists shorter than 2^40. -/
import Derived.Test.YtmdhclpkbopmdaaPz
import Derived.Test.YtmdhclpkbopmdaaGa
import Derived.Test.YtmdhclpkbopmdaaQx3
import Derived.Test.YtmdhclpkbopmdaaQx4
namespace Go.Proofs.Ytmdhclpkbopmdaa.Pm
open Go.RowKit Go.Proofs.Ytmdhclpkbopmdaa.Q Go.Proofs.Ytmdhclpkbopmdaa.Given Go.Proofs.Ytmdhclpkbopmdaa.Pz Go.Proofs.YtmdhclpkbopmdaaW.PrintWords Go.Proofs.YtmdhclpkbopmdaaW.PrintLast

theorem l1In_f (a b c : Int) : spec_l1In.f a b c = some (inRange a b c) := by
  unfold spec_l1In.f inRange
  by_cases h : b ≤ a <;> simp [h]
theorem in_f (a b c : Int) : impl_in.f a b c = some (inRange a b c) := by
  unfold impl_in.f inRange
  by_cases h : b ≤ a <;> simp [h]
theorem meSide_f (a : Int) : spec_meSide.f a = some (inRange a 1 8) := by simp [spec_meSide.f, l1In_f]
theorem isSide_f (a : Int) : impl_isSide.f a = some (inRange a 1 8) := by simp [impl_isSide.f, in_f]

theorem many_f (a : Int) : impl_many.f a = spec_meCount.f a := rfl

/-- Is a number a point: both say the same. -/
theorem mePoint_f (n i : Int) : ∃ b, spec_mePoint.f n i = some b ∧ impl_isPoint.f n [i] = some b ∧ (b = true → (1 ≤ n ∧ n ≤ 8) ∧ 0 ≤ i ∧ i ≤ 44) := by
  refine ⟨inRange n 1 8 && inRange i 0 (wrap64 (wrap64 (Int.tdiv (wrap64 ((wrap64 (n + 1)) * (wrap64 (n + 2)))) 2) - 1)), ?_, ?_, ?_⟩
  · unfold spec_mePoint.f spec_meCount.f
    rw [meSide_f]
    simp only [Option.bind_some, l1In_f]
    cases inRange n 1 8 <;> simp
  · unfold impl_isPoint.f impl_many.f
    rw [isSide_f]
    simp
  · intro h
    unfold inRange at h
    simp only [Bool.and_eq_true, decide_eq_true_eq] at h
    obtain ⟨⟨h1, h2⟩, h3, h4⟩ := h
    refine ⟨⟨h1, h2⟩, h3, ?_⟩
    obtain rfl | rfl | rfl | rfl | rfl | rfl | rfl | rfl : n = 1 ∨ n = 2 ∨ n = 3 ∨ n = 4 ∨ n = 5 ∨ n = 6 ∨ n = 7 ∨ n = 8 := by omega
    all_goals (simp [wrap64] at h4; omega)
end Go.Proofs.Ytmdhclpkbopmdaa.Pm
