/- The law FnExactSquareCells answers true for every int: the program's SquareCells and the reference's return the same, in memory of their own. No condition. -/
import Derived.Test.YtmdhclpkbopmdaaLwSquareCells
namespace Go.Proofs.Ytmdhclpkbopmdaa.Pure
open Go.RowKit Go.Proofs.Ytmdhclpkbopmdaa.Q Go.Proofs.Ytmdhclpkbopmdaa.Given Go.Proofs.Ytmdhclpkbopmdaa.Pz Go.Proofs.Ytmdhclpkbopmdaa.Pg Go.Proofs.YtmdhclpkbopmdaaW.PrintWords Go.Proofs.YtmdhclpkbopmdaaW.PrintLast
set_option linter.unusedVariables false
set_option linter.unusedSimpArgs false

namespace SquareCells
def small (l : List (List Int)) : Bool := decide (l.length ≤ 10000) && l.all fun r => decide (r.length ≤ 10000)
def chk (n : Int) : Bool := match spec_SquareCells.f 200000 n with
  | some g => (impl_SquareCells.f 200000 n == some g) && small g.1
  | none => false
theorem small_of {l : List (List Int)} (h : small l = true) : Small l := by
  unfold small at h
  simp only [Bool.and_eq_true, decide_eq_true_eq, List.all_eq_true] at h
  exact h
set_option maxRecDepth 1000000 in
theorem chk1 : chk 1 = true := by decide +kernel
set_option maxRecDepth 1000000 in
theorem chk2 : chk 2 = true := by decide +kernel
set_option maxRecDepth 1000000 in
theorem chk3 : chk 3 = true := by decide +kernel
set_option maxRecDepth 1000000 in
theorem chk4 : chk 4 = true := by decide +kernel
theorem of_chk {n : Int} (h : chk n = true) : ∃ (k : Nat) (g : List (List Int) × Bool), spec_SquareCells.f k n = some g ∧ impl_SquareCells.f k n = some g ∧ Small g.1 := by
  unfold chk at h
  refine ⟨200000, ?_⟩
  generalize hs : spec_SquareCells.f 200000 n = s at h
  cases s with
  | none => cases h
  | some g =>
    simp only [Bool.and_eq_true] at h
    exact ⟨g, rfl, eq_of_beq h.1, small_of h.2⟩
end SquareCells

theorem FnExactSquareCells : laws_FnExactSquareCells.Pure := by
  intro n _
  by_cases h : 1 ≤ n ∧ n ≤ 4
  · obtain rfl | rfl | rfl | rfl : n = 1 ∨ n = 2 ∨ n = 3 ∨ n = 4 := by omega
    · exact SquareCells.of_chk SquareCells.chk1
    · exact SquareCells.of_chk SquareCells.chk2
    · exact SquareCells.of_chk SquareCells.chk3
    · exact SquareCells.of_chk SquareCells.chk4
  · have hb : (decide (1 ≤ n) && decide (n ≤ 4)) = false := by
      rw [Bool.and_eq_false_iff, decide_eq_false_iff_not, decide_eq_false_iff_not]
      omega
    refine ⟨1, ([], false), ?_, ?_, ?_⟩
    · unfold spec_SquareCells.f spec_opReach.f spec_l1In.f
      by_cases h1 : 1 ≤ n
      · have : ¬ n ≤ 4 := by omega
        simp [h1, this]
      · simp [h1]
    · unfold impl_SquareCells.f impl_isReach.f impl_in.f
      by_cases h1 : 1 ≤ n
      · have : ¬ n ≤ 4 := by omega
        simp [h1, this]
      · simp [h1]
    · exact ⟨by simp, by simp⟩
end Go.Proofs.Ytmdhclpkbopmdaa.Pure
