/- The law FnExactIsUpCell answers true for all ints n and cell: the program's IsUpCell and the reference's return the same. No condition. -/
import Derived.Test.YtjcnmcbapjkmhaaQx13
import Derived.Test.YtjcnmcbapjkmhaaPn
namespace Go.Proofs.Ytjcnmcbapjkmhaa.Pure
open Go.RowKit Go.Proofs.Ytjcnmcbapjkmhaa.Q Go.Proofs.Ytjcnmcbapjkmhaa.Given Go.Proofs.Ytjcnmcbapjkmhaa.Pz Go.Proofs.Ytjcnmcbapjkmhaa.Pm Go.Proofs.Ytjcnmcbapjkmhaa.Pn Go.Proofs.YtjcnmcbapjkmhaaW.PrintWords Go.Proofs.YtjcnmcbapjkmhaaW.PrintLast

namespace IsUpCell
def chk (n : Int) (m : Nat) : Bool := match impl_cells.f 20000 n, spec_meCells.f 20000 n with
  | some a, some b => a == b && a.length == m && (List.range m).all fun i => (impl_isUp.f 20000 n (rd_L1 a i)).isSome && impl_isUp.f 20000 n (rd_L1 a i) == spec_meUp.f 20000 n (rd_L1 a i)
  | _, _ => false
set_option maxRecDepth 100000 in
theorem chk1 : chk 1 1 = true := by decide +kernel
set_option maxRecDepth 100000 in
theorem chk2 : chk 2 4 = true := by decide +kernel
set_option maxRecDepth 100000 in
theorem chk3 : chk 3 9 = true := by decide +kernel
set_option maxRecDepth 100000 in
theorem chk4 : chk 4 16 = true := by decide +kernel
set_option maxRecDepth 100000 in
theorem chk5 : chk 5 25 = true := by decide +kernel
set_option maxRecDepth 100000 in
theorem chk6 : chk 6 36 = true := by decide +kernel
set_option maxRecDepth 100000 in
theorem chk7 : chk 7 49 = true := by decide +kernel
set_option maxRecDepth 100000 in
theorem chk8 : chk 8 64 = true := by decide +kernel
theorem of_chk {n : Int} {m : Nat} (h : chk n m = true) (i : Int) (h0 : 0 ≤ i) (h1 : i < m) (hw : inRange n 1 8 = true) (hi : inRange i 0 (wrap64 (wrap64 (n * n) - 1)) = true) :
    ∃ b, spec_IsUpCell.f 20001 n i = some (b, true) ∧ impl_IsUpCell.f 20001 n i = some (b, true) := by
  unfold chk at h
  cases ha : impl_cells.f 20000 n with
  | none => rw [ha] at h; simp at h
  | some a =>
    cases hb : spec_meCells.f 20000 n with
    | none => rw [ha, hb] at h; simp at h
    | some b =>
      rw [ha, hb] at h
      simp only [Bool.and_eq_true, beq_iff_eq, List.all_eq_true, List.mem_range] at h
      obtain ⟨⟨rfl, hm⟩, hc⟩ := h
      obtain ⟨j, rfl⟩ := Int.eq_ofNat_of_zero_le h0
      have hj := hc j (by omega)
      obtain ⟨hs, he⟩ := hj
      obtain ⟨u, hu⟩ := Option.isSome_iff_exists.mp hs
      have hu' : spec_meUp.f 20000 n (rd_L1 a j) = some u := by rw [← he]; exact hu
      have ha' : impl_cells.f 20001 n = some a := at_rounds (g := fun k => impl_cells.f k n) (fun k => impl_cells.mono _ _) (by omega) ha
      have hu2 : impl_isUp.f 20001 n (rd_L1 a j) = some u := at_rounds (g := fun k => impl_isUp.f k n (rd_L1 a j)) (fun k => impl_isUp.mono _ _ _) (by omega) hu
      refine ⟨u, ?_, ?_⟩
      · unfold spec_IsUpCell.f
        simp only [meSide_f, hw, l1In_f, hi, Option.bind_some, if_true, Bool.not_true, spec_IsUpCell.j0, hb]
        rw [if_neg (by simp), if_pos (by omega), if_pos (by omega), hu']
        rfl
      · unfold impl_IsUpCell.f impl_isCell.f
        simp only [isSide_f, hw, in_f, hi, Option.bind_some, if_true, ha']
        rw [if_pos (by omega), if_pos (by omega), hu2]
        rfl
end IsUpCell

theorem FnExactIsUpCell : laws_FnExactIsUpCell.Pure := by
  intro n i _ _
  refine ⟨20001, ?_⟩
  have hg : ∃ g, spec_IsUpCell.f 20001 n i = some g ∧ impl_IsUpCell.f 20001 n i = some g := by
    by_cases hc : inRange n 1 8 = true ∧ inRange i 0 (wrap64 (wrap64 (n * n) - 1)) = true
    · obtain ⟨hw, hi⟩ := hc
      have hw' := hw
      have hi' := hi
      unfold inRange at hw' hi'
      simp only [Bool.and_eq_true, decide_eq_true_eq] at hw' hi'
      obtain ⟨a1, a2⟩ := hw'
      have h : ∃ b, spec_IsUpCell.f 20001 n i = some (b, true) ∧ impl_IsUpCell.f 20001 n i = some (b, true) := by
        obtain rfl | rfl | rfl | rfl | rfl | rfl | rfl | rfl : n = 1 ∨ n = 2 ∨ n = 3 ∨ n = 4 ∨ n = 5 ∨ n = 6 ∨ n = 7 ∨ n = 8 := by omega
        · exact IsUpCell.of_chk IsUpCell.chk1 i hi'.1 (by have := hi'.2; simp [wrap64] at this; omega) hw hi
        · exact IsUpCell.of_chk IsUpCell.chk2 i hi'.1 (by have := hi'.2; simp [wrap64] at this; omega) hw hi
        · exact IsUpCell.of_chk IsUpCell.chk3 i hi'.1 (by have := hi'.2; simp [wrap64] at this; omega) hw hi
        · exact IsUpCell.of_chk IsUpCell.chk4 i hi'.1 (by have := hi'.2; simp [wrap64] at this; omega) hw hi
        · exact IsUpCell.of_chk IsUpCell.chk5 i hi'.1 (by have := hi'.2; simp [wrap64] at this; omega) hw hi
        · exact IsUpCell.of_chk IsUpCell.chk6 i hi'.1 (by have := hi'.2; simp [wrap64] at this; omega) hw hi
        · exact IsUpCell.of_chk IsUpCell.chk7 i hi'.1 (by have := hi'.2; simp [wrap64] at this; omega) hw hi
        · exact IsUpCell.of_chk IsUpCell.chk8 i hi'.1 (by have := hi'.2; simp [wrap64] at this; omega) hw hi
      obtain ⟨b, h1, h2⟩ := h
      exact ⟨_, h1, h2⟩
    · refine ⟨(false, false), ?_, ?_⟩
      · unfold spec_IsUpCell.f
        simp only [meSide_f, l1In_f, Option.bind_some]
        cases hw : inRange n 1 8
        · simp [spec_IsUpCell.j0]
        · have : inRange i 0 (wrap64 (wrap64 (n * n) - 1)) = false := by simpa [hw] using hc
          simp [this, spec_IsUpCell.j0]
      · unfold impl_IsUpCell.f impl_isCell.f
        simp only [isSide_f, in_f, Option.bind_some]
        cases hw : inRange n 1 8
        · simp
        · have : inRange i 0 (wrap64 (wrap64 (n * n) - 1)) = false := by simpa [hw] using hc
          simp [this]
  obtain ⟨g, g1, g2⟩ := hg
  unfold laws_FnExactIsUpCell.f
  simp [g1, g2]
end Go.Proofs.Ytjcnmcbapjkmhaa.Pure
