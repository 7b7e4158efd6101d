/- Plain facts on the points of the triangles of side 1 to 8, checked one by one by the kernel: the program's list of points is the reference's numbering. -/
import Derived.Test.YtcnplmajlanmdaaPm
import Derived.Test.YtcnplmajlanmdaaQx2
namespace Go.Proofs.Ytcnplmajlanmdaa.Pn
open Go.RowKit Go.Proofs.Ytcnplmajlanmdaa.Q Go.Proofs.Ytcnplmajlanmdaa.Given Go.Proofs.Ytcnplmajlanmdaa.Pz Go.Proofs.Ytcnplmajlanmdaa.Pm Go.Proofs.YtcnplmajlanmdaaW.PrintWords Go.Proofs.YtcnplmajlanmdaaW.PrintLast

def ptsChk (n : Int) (m : Nat) : Bool := match impl_points.f 100 n with
  | none => false
  | some ps => ps.length == m && (List.range m).all fun i => spec_meAt.f 100 n (i : Int) == some [(rd_T52 ps i).f0, (rd_T52 ps i).f1, (rd_T52 ps i).f2] && (decide (0 ≤ (rd_T52 ps i).f0) && decide (0 ≤ (rd_T52 ps i).f1) && decide (0 ≤ (rd_T52 ps i).f2) && ((rd_T52 ps i).f0 + (rd_T52 ps i).f1 + (rd_T52 ps i).f2 == n))
set_option maxRecDepth 100000 in
theorem pts1 : ptsChk 1 3 = true := by decide +kernel
set_option maxRecDepth 100000 in
theorem pts2 : ptsChk 2 6 = true := by decide +kernel
set_option maxRecDepth 100000 in
theorem pts3 : ptsChk 3 10 = true := by decide +kernel
set_option maxRecDepth 100000 in
theorem pts4 : ptsChk 4 15 = true := by decide +kernel
set_option maxRecDepth 100000 in
theorem pts5 : ptsChk 5 21 = true := by decide +kernel
set_option maxRecDepth 100000 in
theorem pts6 : ptsChk 6 28 = true := by decide +kernel
set_option maxRecDepth 100000 in
theorem pts7 : ptsChk 7 36 = true := by decide +kernel
set_option maxRecDepth 100000 in
theorem pts8 : ptsChk 8 45 = true := by decide +kernel

/-- What is known of the points of a side. -/
structure Pts (n : Int) (m : Nat) (ps : List S52) : Prop where
  pts : ∀ k, 100 ≤ k → impl_points.f k n = some ps
  len : ps.length = m
  at_ : ∀ i : Nat, i < m → ∀ k, 100 ≤ k → spec_meAt.f k n (i : Int) = some [(rd_T52 ps i).f0, (rd_T52 ps i).f1, (rd_T52 ps i).f2]
  low : ∀ i : Nat, i < m → 0 ≤ (rd_T52 ps i).f0 ∧ 0 ≤ (rd_T52 ps i).f1 ∧ 0 ≤ (rd_T52 ps i).f2 ∧ (rd_T52 ps i).f0 + (rd_T52 ps i).f1 + (rd_T52 ps i).f2 = n

theorem of_chk {n : Int} {m : Nat} (h : ptsChk n m = true) : ∃ ps, Pts n m ps := by
  unfold ptsChk at h
  cases hp : impl_points.f 100 n with
  | none => rw [hp] at h; simp at h
  | some ps =>
    rw [hp] at h
    simp only [Bool.and_eq_true, beq_iff_eq, List.all_eq_true, List.mem_range, decide_eq_true_eq] at h
    refine ⟨ps, fun k hk => at_rounds (g := fun k => impl_points.f k n) (fun k => impl_points.mono _ _) hk hp, h.1, fun i hi k hk => at_rounds (g := fun k => spec_meAt.f k n i) (fun k => spec_meAt.mono _ _ _) hk (h.2 i hi).1, fun i hi => ?_⟩
    have := (h.2 i hi).2
    exact ⟨this.1.1.1, this.1.1.2, this.1.2, this.2⟩

def cnt (n : Int) : Nat := ((n + 1) * (n + 2) / 2).toNat
theorem pts_of {n : Int} (h1 : 1 ≤ n) (h2 : n ≤ 8) : ∃ ps, Pts n (cnt n) ps := by
  obtain rfl | rfl | rfl | rfl | rfl | rfl | rfl | rfl : n = 1 ∨ n = 2 ∨ n = 3 ∨ n = 4 ∨ n = 5 ∨ n = 6 ∨ n = 7 ∨ n = 8 := by omega
  · exact of_chk pts1
  · exact of_chk pts2
  · exact of_chk pts3
  · exact of_chk pts4
  · exact of_chk pts5
  · exact of_chk pts6
  · exact of_chk pts7
  · exact of_chk pts8
theorem cnt_le {n : Int} (h1 : 1 ≤ n) (h2 : n ≤ 8) : cnt n ≤ 45 := by
  obtain rfl | rfl | rfl | rfl | rfl | rfl | rfl | rfl : n = 1 ∨ n = 2 ∨ n = 3 ∨ n = 4 ∨ n = 5 ∨ n = 6 ∨ n = 7 ∨ n = 8 := by omega
  all_goals decide

/-- Labels of a side: as many as points, all in 0, 1, 2. -/
theorem labels_of {n : Int} {l : List Int} {b : Bool} (h : impl_areLabels.f n l = some b) (hb : b = true) : 1 ≤ n ∧ n ≤ 8 ∧ l.length = cnt n ∧ ∀ x ∈ l, 0 ≤ x ∧ x ≤ 2 := by
  subst hb
  unfold impl_areLabels.f impl_many.f at h
  rw [isSide_f] at h
  simp only [Option.bind_some, Option.some.injEq, Bool.and_eq_true, beq_iff_eq, List.all_eq_true] at h
  obtain ⟨h1, h2, h3⟩ := h
  unfold inRange at h1 h3
  simp only [Bool.and_eq_true, decide_eq_true_eq] at h1 h3
  refine ⟨h1.1, h1.2, ?_, h3⟩
  have a1 := h1.1
  have a2 := h1.2
  clear h1 h3
  obtain rfl | rfl | rfl | rfl | rfl | rfl | rfl | rfl : n = 1 ∨ n = 2 ∨ n = 3 ∨ n = 4 ∨ n = 5 ∨ n = 6 ∨ n = 7 ∨ n = 8 := by omega
  all_goals (simp [wrap64] at h2; simp [cnt]; omega)
end Go.Proofs.Ytcnplmajlanmdaa.Pn
