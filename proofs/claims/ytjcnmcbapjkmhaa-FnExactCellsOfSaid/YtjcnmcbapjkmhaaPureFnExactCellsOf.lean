/- The law FnExactCellsOf answers true for every int: the program's CellsOf and the reference's return the same, in memory of their own. No condition. -/
import Derived.Test.YtjcnmcbapjkmhaaLwCellsOf
import Derived.Test.YtjcnmcbapjkmhaaPm
namespace Go.Proofs.Ytjcnmcbapjkmhaa.Pure
open Go.RowKit Go.Proofs.Ytjcnmcbapjkmhaa.Q Go.Proofs.Ytjcnmcbapjkmhaa.Given Go.Proofs.Ytjcnmcbapjkmhaa.Pz Go.Proofs.Ytjcnmcbapjkmhaa.Pm Go.Proofs.Ytjcnmcbapjkmhaa.Pg Go.Proofs.YtjcnmcbapjkmhaaW.PrintWords Go.Proofs.YtjcnmcbapjkmhaaW.PrintLast
set_option linter.unusedVariables false
set_option linter.unusedSimpArgs false

namespace CellsOf
def small (l : List (List Int)) : Bool := decide (l.length ≤ 10000) && l.all fun r => decide (r.length ≤ 10000)
def chk (n : Int) : Bool := match spec_CellsOf.f 200000 n with
  | some g => (impl_CellsOf.f 200000 n == some g) && small g.1
  | none => false
theorem small_of {l : List (List Int)} (h : small l = true) : Small l := by
  unfold small at h
  simp only [Bool.and_eq_true, decide_eq_true_eq, List.all_eq_true] at h
  exact h
set_option maxRecDepth 1000000 in
theorem chk1 : chk 1 = true := by decide +kernel
set_option maxRecDepth 1000000 in
theorem chk2 : chk 2 = true := by decide +kernel
set_option maxRecDepth 1000000 in
theorem chk3 : chk 3 = true := by decide +kernel
set_option maxRecDepth 1000000 in
theorem chk4 : chk 4 = true := by decide +kernel
set_option maxRecDepth 1000000 in
theorem chk5 : chk 5 = true := by decide +kernel
set_option maxRecDepth 1000000 in
theorem chk6 : chk 6 = true := by decide +kernel
set_option maxRecDepth 1000000 in
theorem chk7 : chk 7 = true := by decide +kernel
set_option maxRecDepth 1000000 in
theorem chk8 : chk 8 = true := by decide +kernel
theorem of_chk {n : Int} (h : chk n = true) : ∃ (k : Nat) (g : List (List Int) × Bool), spec_CellsOf.f k n = some g ∧ impl_CellsOf.f k n = some g ∧ Small g.1 := by
  unfold chk at h
  refine ⟨200000, ?_⟩
  generalize hs : spec_CellsOf.f 200000 n = s at h
  cases s with
  | none => cases h
  | some g =>
    simp only [Bool.and_eq_true] at h
    exact ⟨g, rfl, eq_of_beq h.1, small_of h.2⟩
end CellsOf

theorem FnExactCellsOf : laws_FnExactCellsOf.Pure := by
  intro n _
  by_cases h : 1 ≤ n ∧ n ≤ 8
  · obtain rfl | rfl | rfl | rfl | rfl | rfl | rfl | rfl : n = 1 ∨ n = 2 ∨ n = 3 ∨ n = 4 ∨ n = 5 ∨ n = 6 ∨ n = 7 ∨ n = 8 := by omega
    · exact CellsOf.of_chk CellsOf.chk1
    · exact CellsOf.of_chk CellsOf.chk2
    · exact CellsOf.of_chk CellsOf.chk3
    · exact CellsOf.of_chk CellsOf.chk4
    · exact CellsOf.of_chk CellsOf.chk5
    · exact CellsOf.of_chk CellsOf.chk6
    · exact CellsOf.of_chk CellsOf.chk7
    · exact CellsOf.of_chk CellsOf.chk8
  · have hr : inRange n 1 8 = false := by
      unfold inRange
      rw [Bool.and_eq_false_iff, decide_eq_false_iff_not, decide_eq_false_iff_not]
      omega
    refine ⟨1, ([], false), ?_, ?_, ?_⟩
    · unfold spec_CellsOf.f; rw [meSide_f, hr]; simp
    · unfold impl_CellsOf.f; rw [isSide_f, hr]; simp
    · exact ⟨by simp, by simp⟩
end Go.Proofs.Ytjcnmcbapjkmhaa.Pure
