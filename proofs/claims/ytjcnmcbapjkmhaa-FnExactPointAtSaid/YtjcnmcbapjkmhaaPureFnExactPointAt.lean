/- The law FnExactPointAt answers true for all ints n and i: the program's PointAt and the reference's return the same, in memory of their own. No condition. -/
import Derived.Test.YtjcnmcbapjkmhaaQx4
import Derived.Test.YtjcnmcbapjkmhaaPm
namespace Go.Proofs.Ytjcnmcbapjkmhaa.Pure
open Go.RowKit Go.Proofs.Ytjcnmcbapjkmhaa.Q Go.Proofs.Ytjcnmcbapjkmhaa.Given Go.Proofs.Ytjcnmcbapjkmhaa.Pz Go.Proofs.Ytjcnmcbapjkmhaa.Pm Go.Proofs.YtjcnmcbapjkmhaaW.PrintWords Go.Proofs.YtjcnmcbapjkmhaaW.PrintLast

namespace PointAt
def chk (n : Nat) : Bool := (List.range 45).all fun i => laws_FnExactPointAt.f 200 n i == some true
set_option maxRecDepth 100000 in
theorem chk1 : chk 1 = true := by decide +kernel
set_option maxRecDepth 100000 in
theorem chk2 : chk 2 = true := by decide +kernel
set_option maxRecDepth 100000 in
theorem chk3 : chk 3 = true := by decide +kernel
set_option maxRecDepth 100000 in
theorem chk4 : chk 4 = true := by decide +kernel
set_option maxRecDepth 100000 in
theorem chk5 : chk 5 = true := by decide +kernel
set_option maxRecDepth 100000 in
theorem chk6 : chk 6 = true := by decide +kernel
set_option maxRecDepth 100000 in
theorem chk7 : chk 7 = true := by decide +kernel
set_option maxRecDepth 100000 in
theorem chk8 : chk 8 = true := by decide +kernel
theorem chk_i {n : Nat} (h : chk n = true) (i : Nat) (hi : i ≤ 44) : laws_FnExactPointAt.f 200 n i = some true := by
  unfold chk at h
  rw [List.all_eq_true] at h
  exact eq_of_beq (h i (List.mem_range.mpr (by omega)))
end PointAt

theorem FnExactPointAt : laws_FnExactPointAt.Pure := by
  intro n i _ _
  obtain ⟨b, h1, h2, h3⟩ := mePoint_f n i
  cases b with
  | true =>
    obtain ⟨⟨a1, a2⟩, a3, a4⟩ := h3 rfl
    refine ⟨200, ?_⟩
    obtain ⟨j, rfl⟩ := Int.eq_ofNat_of_zero_le a3
    have hj : j ≤ 44 := by omega
    obtain rfl | rfl | rfl | rfl | rfl | rfl | rfl | rfl : n = 1 ∨ n = 2 ∨ n = 3 ∨ n = 4 ∨ n = 5 ∨ n = 6 ∨ n = 7 ∨ n = 8 := by omega
    · exact PointAt.chk_i PointAt.chk1 j hj
    · exact PointAt.chk_i PointAt.chk2 j hj
    · exact PointAt.chk_i PointAt.chk3 j hj
    · exact PointAt.chk_i PointAt.chk4 j hj
    · exact PointAt.chk_i PointAt.chk5 j hj
    · exact PointAt.chk_i PointAt.chk6 j hj
    · exact PointAt.chk_i PointAt.chk7 j hj
    · exact PointAt.chk_i PointAt.chk8 j hj
  | false =>
    refine ⟨10, ?_⟩
    have hs : ∀ k, spec_PointAt.f k n i = some ([], false) := fun k => by unfold spec_PointAt.f; rw [h1]; simp
    have hi : ∀ k, impl_PointAt.f k n i = some ([], false) := fun k => by unfold impl_PointAt.f; rw [h2]; simp
    unfold laws_FnExactPointAt.f
    rw [hs, hi]
    simp [laws_FnExactPointAt.j0, laws_FnExactPointAt.j1, hi, laws_eqIntS.f, laws_eqIntS.l0, laws_markIntS.f, laws_markIntS.l0, laws_heldIntS.f, laws_heldIntS.l0]
end Go.Proofs.Ytjcnmcbapjkmhaa.Pure
