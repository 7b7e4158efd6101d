/- The law FnExactOwnerAt answers true for all ints n and i: the program's OwnerAt and the reference's return the same, No condition. -/
import Derived.Test.YtmdhclpkbopmdaaQx14
import Derived.Test.YtmdhclpkbopmdaaPm
namespace Go.Proofs.Ytmdhclpkbopmdaa.Pure
open Go.RowKit Go.Proofs.Ytmdhclpkbopmdaa.Q Go.Proofs.Ytmdhclpkbopmdaa.Given Go.Proofs.Ytmdhclpkbopmdaa.Pz Go.Proofs.Ytmdhclpkbopmdaa.Pm Go.Proofs.YtmdhclpkbopmdaaW.PrintWords Go.Proofs.YtmdhclpkbopmdaaW.PrintLast

namespace OwnerAt
def chk (n : Nat) : Bool := (List.range 45).all fun i => laws_FnExactOwnerAt.f 200 n i == some true
set_option maxRecDepth 100000 in
theorem chk1 : chk 1 = true := by decide +kernel
set_option maxRecDepth 100000 in
theorem chk2 : chk 2 = true := by decide +kernel
set_option maxRecDepth 100000 in
theorem chk3 : chk 3 = true := by decide +kernel
set_option maxRecDepth 100000 in
theorem chk4 : chk 4 = true := by decide +kernel
set_option maxRecDepth 100000 in
theorem chk5 : chk 5 = true := by decide +kernel
set_option maxRecDepth 100000 in
theorem chk6 : chk 6 = true := by decide +kernel
set_option maxRecDepth 100000 in
theorem chk7 : chk 7 = true := by decide +kernel
set_option maxRecDepth 100000 in
theorem chk8 : chk 8 = true := by decide +kernel
theorem chk_i {n : Nat} (h : chk n = true) (i : Nat) (hi : i ≤ 44) : laws_FnExactOwnerAt.f 200 n i = some true := by
  unfold chk at h
  rw [List.all_eq_true] at h
  exact eq_of_beq (h i (List.mem_range.mpr (by omega)))
end OwnerAt

theorem FnExactOwnerAt : laws_FnExactOwnerAt.Pure := by
  intro n i _ _
  obtain ⟨b, h1, h2, h3⟩ := mePoint_f n i
  cases b with
  | true =>
    obtain ⟨⟨a1, a2⟩, a3, a4⟩ := h3 rfl
    refine ⟨200, ?_⟩
    obtain ⟨j, rfl⟩ := Int.eq_ofNat_of_zero_le a3
    have hj : j ≤ 44 := by omega
    obtain rfl | rfl | rfl | rfl | rfl | rfl | rfl | rfl : n = 1 ∨ n = 2 ∨ n = 3 ∨ n = 4 ∨ n = 5 ∨ n = 6 ∨ n = 7 ∨ n = 8 := by omega
    · exact OwnerAt.chk_i OwnerAt.chk1 j hj
    · exact OwnerAt.chk_i OwnerAt.chk2 j hj
    · exact OwnerAt.chk_i OwnerAt.chk3 j hj
    · exact OwnerAt.chk_i OwnerAt.chk4 j hj
    · exact OwnerAt.chk_i OwnerAt.chk5 j hj
    · exact OwnerAt.chk_i OwnerAt.chk6 j hj
    · exact OwnerAt.chk_i OwnerAt.chk7 j hj
    · exact OwnerAt.chk_i OwnerAt.chk8 j hj
  | false =>
    refine ⟨10, ?_⟩
    have hs : ∀ k, spec_OwnerAt.f k n i = some (0, false) := fun k => by unfold spec_OwnerAt.f; rw [h1]; simp
    have hi : ∀ k, impl_OwnerAt.f k n i = some (0, false) := fun k => by unfold impl_OwnerAt.f; rw [h2]; simp
    unfold laws_FnExactOwnerAt.f
    rw [hs, hi]
    simp
end Go.Proofs.Ytmdhclpkbopmdaa.Pure
