/- (without up cells) Plain facts on the cells and the border of the triangles of side 1 to 8, checked one by one by the kernel. -/
import Derived.Test.YtcnplmajlanmdaaPn
import Derived.Test.YtcnplmajlanmdaaQx5
import Derived.Test.YtcnplmajlanmdaaQx7
import Derived.Test.YtcnplmajlanmdaaQx6
import Derived.Test.YtcnplmajlanmdaaGa
import Derived.Test.YtcnplmajlanmdaaGc
import Derived.Test.YtcnplmajlanmdaaGh
namespace Go.Proofs.Ytcnplmajlanmdaa.Pk
open Go.RowKit Go.Proofs.Ytcnplmajlanmdaa.Q Go.Proofs.Ytcnplmajlanmdaa.Given Go.Proofs.Ytcnplmajlanmdaa.Pz Go.Proofs.Ytcnplmajlanmdaa.Pm Go.Proofs.Ytcnplmajlanmdaa.Pn Go.Proofs.YtcnplmajlanmdaaW.PrintWords Go.Proofs.YtcnplmajlanmdaaW.PrintLast

def triB (m : Int) (c : List Int) : Bool := match c with
  | [i, j, l] => decide (0 ≤ i) && decide (i < j) && decide (j < l) && decide (l < m)
  | _ => false
def clsChk (n : Int) (m : Nat) : Bool := match impl_cells.f 20000 n, spec_meCells.f 20000 n, impl_border.f 20000 n with
  | some a, some b, some d => a == b && a.length == m && decide (0 < d.length) && decide (d.length ≤ 24) && (d.all fun i => decide (0 ≤ i) && decide (i < (cnt n : Int))) && a.all fun c => triB (cnt n) c
  | _, _, _ => false
set_option maxRecDepth 100000 in
theorem chk1 : clsChk 1 1 = true := by decide +kernel
set_option maxRecDepth 100000 in
theorem chk2 : clsChk 2 4 = true := by decide +kernel
set_option maxRecDepth 100000 in
theorem chk3 : clsChk 3 9 = true := by decide +kernel
set_option maxRecDepth 100000 in
theorem chk4 : clsChk 4 16 = true := by decide +kernel
set_option maxRecDepth 100000 in
theorem chk5 : clsChk 5 25 = true := by decide +kernel
set_option maxRecDepth 100000 in
theorem chk6 : clsChk 6 36 = true := by decide +kernel
set_option maxRecDepth 100000 in
theorem chk7 : clsChk 7 49 = true := by decide +kernel
set_option maxRecDepth 100000 in
theorem chk8 : clsChk 8 64 = true := by decide +kernel

structure Cls (n : Int) (cs : List (List Int)) (bd : List Int) : Prop where
  ic : ∀ k, 20000 ≤ k → impl_cells.f k n = some cs
  sc : ∀ k, 20000 ≤ k → spec_meCells.f k n = some cs
  ib : ∀ k, 20000 ≤ k → impl_border.f k n = some bd
  len : (cs.length : Int) = n * n
  bl : 0 < bd.length ∧ bd.length ≤ 24
  bm : ∀ i ∈ bd, 0 ≤ i ∧ i < (cnt n : Int)
  tri : ∀ c ∈ cs, ∃ i j l : Int, c = [i, j, l] ∧ 0 ≤ i ∧ i < j ∧ j < l ∧ l < (cnt n : Int)

theorem cls_chk {n : Int} {m : Nat} (hm : (m : Int) = n * n) (h : clsChk n m = true) : ∃ cs bd, Cls n cs bd := by
  unfold clsChk at h
  cases ha : impl_cells.f 20000 n with
  | none => rw [ha] at h; simp at h
  | some a =>
    cases hb : spec_meCells.f 20000 n with
    | none => rw [ha, hb] at h; simp at h
    | some b =>
      cases hd : impl_border.f 20000 n with
      | none => rw [ha, hb, hd] at h; simp at h
      | some d =>
          rw [ha, hb, hd] at h
          simp only [Bool.and_eq_true, beq_iff_eq, List.all_eq_true, decide_eq_true_eq] at h
          obtain ⟨⟨⟨⟨⟨rfl, hl⟩, h1⟩, h2⟩, h3⟩, h4⟩ := h
          refine ⟨a, d, ⟨fun k hk => at_rounds (g := fun k => impl_cells.f k n) (fun k => impl_cells.mono _ _) hk ha, fun k hk => at_rounds (g := fun k => spec_meCells.f k n) (fun k => spec_meCells.mono _ _) hk hb, fun k hk => at_rounds (g := fun k => impl_border.f k n) (fun k => impl_border.mono _ _) hk hd, by omega, ⟨h1, h2⟩, h3, fun c hc => ?_⟩⟩
          have ht := h4 c hc
          unfold triB at ht
          split at ht
          · rename_i i j l
            simp only [Bool.and_eq_true, decide_eq_true_eq] at ht
            exact ⟨i, j, l, rfl, ht.1.1.1, ht.1.1.2, ht.1.2, ht.2⟩
          · simp at ht
theorem cls_of {n : Int} (h1 : 1 ≤ n) (h2 : n ≤ 8) : ∃ cs bd, Cls n cs bd := by
  obtain rfl | rfl | rfl | rfl | rfl | rfl | rfl | rfl : n = 1 ∨ n = 2 ∨ n = 3 ∨ n = 4 ∨ n = 5 ∨ n = 6 ∨ n = 7 ∨ n = 8 := by omega
  · exact cls_chk (by decide) chk1
  · exact cls_chk (by decide) chk2
  · exact cls_chk (by decide) chk3
  · exact cls_chk (by decide) chk4
  · exact cls_chk (by decide) chk5
  · exact cls_chk (by decide) chk6
  · exact cls_chk (by decide) chk7
  · exact cls_chk (by decide) chk8

def nearChk (n : Int) (m : Nat) : Bool := match impl_points.f 100 n with
  | none => false
  | some ps => (List.range m).all fun i => (List.range m).all fun j => (spec_meNear.f 100 n i j).isSome && impl_near.f (rd_T52 ps i).f0 (rd_T52 ps i).f1 (rd_T52 ps i).f2 (rd_T52 ps j).f0 (rd_T52 ps j).f1 (rd_T52 ps j).f2 == spec_meNear.f 100 n i j
set_option maxRecDepth 100000 in
theorem near_chk {n : Int} (h1 : 1 ≤ n) (h2 : n ≤ 8) : nearChk n (cnt n) = true := by
  obtain rfl | rfl | rfl | rfl | rfl | rfl | rfl | rfl : n = 1 ∨ n = 2 ∨ n = 3 ∨ n = 4 ∨ n = 5 ∨ n = 6 ∨ n = 7 ∨ n = 8 := by omega
  all_goals decide +kernel
theorem near_of {n : Int} {ps : List S52} (hp : Pts n (cnt n) ps) (h1 : 1 ≤ n) (h2 : n ≤ 8) (i j : Nat) (hi : i < cnt n) (hj : j < cnt n) :
    ∃ b, impl_near.f (rd_T52 ps i).f0 (rd_T52 ps i).f1 (rd_T52 ps i).f2 (rd_T52 ps j).f0 (rd_T52 ps j).f1 (rd_T52 ps j).f2 = some b ∧ ∀ k, 100 ≤ k → spec_meNear.f k n i j = some b := by
  have h := near_chk h1 h2
  unfold nearChk at h
  rw [hp.pts 100 (by omega)] at h
  simp only [List.all_eq_true, List.mem_range, Bool.and_eq_true, beq_iff_eq] at h
  obtain ⟨a1, a2⟩ := h i hi j hj
  obtain ⟨u, hu⟩ := Option.isSome_iff_exists.mp a1
  exact ⟨u, by rw [a2]; exact hu, fun k hk => at_rounds (g := fun k => spec_meNear.f k n i j) (fun k => spec_meNear.mono _ _ _ _) hk hu⟩

def Lab (x : Int) : Prop := 0 ≤ x ∧ x ≤ 2
theorem lab_cases {x : Int} (h : Lab x) : x = 0 ∨ x = 1 ∨ x = 2 := by unfold Lab at h; omega
theorem rd_lab {l : List Int} (hl : ∀ x ∈ l, 0 ≤ x ∧ x ≤ 2) {i : Int} (h0 : 0 ≤ i) (h1 : i < (l.length : Int)) : Lab (rd l i) :=
  hl _ (by unfold rd; rw [List.getD_eq_getElem?_getD, List.getElem?_eq_getElem (by omega)]; simp)
theorem cell_mem {cs : List (List Int)} {i : Int} (h0 : 0 ≤ i) (h1 : i < (cs.length : Int)) : rd_L1 cs i ∈ cs := by
  unfold rd_L1; rw [List.getD_eq_getElem?_getD, List.getElem?_eq_getElem (by omega)]; simp

theorem houseOf_no {n : Int} {l : List Int} (h : impl_areLabels.f n l = some false) (k : Nat) : impl_houseOf.f k n l = some (0, [], [], [], false) := by
  unfold impl_houseOf.f; rw [h]; rfl
theorem houseOf_yes {n : Int} {l : List Int} {cs : List (List Int)} {bd : List Int} (h : impl_areLabels.f n l = some true) (hc : Cls n cs bd) (k : Nat) (hk : 20000 ≤ k) : impl_houseOf.f k n l = some (n, l, cs, bd, true) := by
  unfold impl_houseOf.f; rw [h, hc.ic k hk, hc.ib k hk]; rfl

/-- The labels of a side, its cells: all that is needed. -/
structure Hse (n : Int) (l : List Int) (cs : List (List Int)) (bd : List Int) : Prop where
  cls : Cls n cs bd
  n1 : 1 ≤ n
  n8 : n ≤ 8
  len : l.length = cnt n
  lab : ∀ x ∈ l, 0 ≤ x ∧ x ≤ 2
theorem hse_of {n : Int} {l : List Int} (h : impl_areLabels.f n l = some true) : ∃ cs bd, Hse n l cs bd := by
  obtain ⟨n1, n2, hc, hl⟩ := labels_of h rfl
  obtain ⟨cs, bd, h⟩ := cls_of n1 n2
  exact ⟨cs, bd, ⟨h, n1, n2, hc, hl⟩⟩
end Go.Proofs.Ytcnplmajlanmdaa.Pk
