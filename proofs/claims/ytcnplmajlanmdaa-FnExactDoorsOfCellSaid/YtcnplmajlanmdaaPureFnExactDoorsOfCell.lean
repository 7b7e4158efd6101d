/- The law FnExactDoorsOfCell answers true for all ints and every list of ints: the program's DoorsOfCell and the reference's return the same, in memory of their own, and the list is left alone. No condition. -/
import Derived.Test.YtcnplmajlanmdaaLwDoorsOfCell
import Derived.Test.YtcnplmajlanmdaaPl
import Derived.Test.YtcnplmajlanmdaaHc
import Derived.Test.YtcnplmajlanmdaaQx3
import Derived.Test.YtcnplmajlanmdaaQx2
namespace Go.Proofs.Ytcnplmajlanmdaa.Pure
open Go.RowKit Go.Proofs.Ytcnplmajlanmdaa.Q Go.Proofs.Ytcnplmajlanmdaa.Given Go.Proofs.Ytcnplmajlanmdaa.Pz Go.Proofs.Ytcnplmajlanmdaa.Pm Go.Proofs.Ytcnplmajlanmdaa.Pn Go.Proofs.Ytcnplmajlanmdaa.Pk Go.Proofs.Ytcnplmajlanmdaa.Pg Go.Proofs.Ytcnplmajlanmdaa.Pl Go.Proofs.YtcnplmajlanmdaaW.PrintWords Go.Proofs.YtcnplmajlanmdaaW.PrintLast
set_option linter.unusedVariables false
set_option linter.unusedSimpArgs false

namespace DoorsOfCell
theorem cell_f {n c : Int} (n1 : 1 ≤ n) (n8 : n ≤ 8) : ∃ b, impl_isCell.f n c = some b ∧ spec_l1In.f c 0 (wrap64 ((wrap64 (n * n)) - 1)) = some b ∧ (b = true → 0 ≤ c ∧ c < n * n) := by
  have hf : inRange n 1 8 = true := by unfold inRange; simp [n1, n8]
  refine ⟨inRange c 0 (wrap64 ((wrap64 (n * n)) - 1)), ?_, l1In_f _ _ _, ?_⟩
  · unfold impl_isCell.f
    rw [isSide_f, hf, in_f]
    rfl
  · intro h
    unfold inRange at h
    simp only [Bool.and_eq_true, decide_eq_true_eq] at h
    refine ⟨h.1, ?_⟩
    have h2 := h.2
    obtain rfl | rfl | rfl | rfl | rfl | rfl | rfl | rfl : n = 1 ∨ n = 2 ∨ n = 3 ∨ n = 4 ∨ n = 5 ∨ n = 6 ∨ n = 7 ∨ n = 8 := by omega
    all_goals (simp [wrap64] at h2; omega)
theorem l1_in {k : Nat} {l c z : List Int} {o : List (List Int)} {i t u : Int} {y : List Int} {p q : Int} {b : Bool} (h0 : 0 ≤ t) (h1 : t < (z.length : Int)) (hw : wrap64 (t + 1) = u) (ho : o.length < 100) (hd : spec_doDoor.f l i (rd z t) = some b) :
    spec_doOfCell.l1 (k + 1) l c o i y p q z (z.length : Int) t = spec_doOfCell.l1 k l c (if b then o ++ [[i, rd z t]] else o) i y p q z (z.length : Int) u := by
  rw [spec_doOfCell.l1, if_pos h1, if_pos h0, if_pos h1, hd, Option.bind_some, if_pos (show o.length < 5864062014805 by omega), hw]
  cases b <;> simp
theorem l1_out {k : Nat} {l c z : List Int} {o : List (List Int)} {i t : Int} {y : List Int} {p q : Int} (h1 : ¬ t < (z.length : Int)) :
    spec_doOfCell.l1 (k + 1) l c o i y p q z (z.length : Int) t = spec_doOfCell.l0 k l c o y p (wrap64 (q + 1)) := by
  rw [spec_doOfCell.l1, if_neg h1]
theorem r0 (a b c : Int) : rd [a, b, c] 0 = a := rfl
theorem r1 (a b c : Int) : rd [a, b, c] 1 = b := rfl
theorem r2 (a b c : Int) : rd [a, b, c] 2 = c := rfl
theorem q0 (a b : Int) : rd [a, b] 0 = a := rfl
theorem q1 (a b : Int) : rd [a, b] 1 = b := rfl
theorem s0 (a : Int) : rd [a] 0 = a := rfl
theorem of_cell {l : List Int} {i j m : Int} {x y z : Bool} (h1 : spec_doDoor.f l i j = some x) (h2 : spec_doDoor.f l i m = some y) (h3 : spec_doDoor.f l j m = some z) (k : Nat) (hk : 10 ≤ k) :
    spec_doOfCell.f k l [i, j, m] = some ((if x then [[i, j]] else []) ++ ((if y then [[i, m]] else []) ++ (if z then [[j, m]] else []))) := by
  obtain ⟨k, rfl⟩ : ∃ p, k = p + 10 := ⟨k - 10, by omega⟩
  have w1 : wrap64 (0 + 1) = 1 := by decide +kernel
  have w2 : wrap64 (1 + 1) = 2 := by decide +kernel
  have w3 : wrap64 (2 + 1) = 3 := by decide +kernel
  have d1 : ([i, j, m] : List Int).drop ((1 : Int).toNat) = [j, m] := rfl
  have d2 : ([i, j, m] : List Int).drop ((2 : Int).toNat) = [m] := rfl
  have d3 : ([i, j, m] : List Int).drop ((3 : Int).toNat) = [] := rfl
  unfold spec_doOfCell.f
  rw [spec_doOfCell.l0, if_pos (by simp), if_pos (by omega), if_pos (by simp), w1, if_pos (by omega), if_pos (by simp), r0, d1]
  rw [l1_in (b := x) (by omega) (by simp) w1 (by simp) (by rw [q0]; exact h1), q0, l1_in (b := y) (by omega) (by simp) w2 (by cases x <;> simp) (by rw [q1]; exact h2), q1, l1_out (by simp), w1]
  rw [spec_doOfCell.l0, if_pos (by simp), if_pos (by omega), if_pos (by simp), w2, if_pos (by omega), if_pos (by simp), r1, d2]
  rw [l1_in (b := z) (by omega) (by simp) w1 (by cases x <;> cases y <;> simp) (by rw [s0]; exact h3), s0, l1_out (by simp), w2]
  rw [spec_doOfCell.l0, if_pos (by simp), if_pos (by omega), if_pos (by simp), w3, if_pos (by omega), if_pos (by simp), r2, d3, l1_out (by simp), w3]
  rw [spec_doOfCell.l0, if_neg (by simp)]
  cases x <;> cases y <;> cases z <;> simp
theorem pairs_f {l : List Int} {i j m : Int} (x y z : Bool) (h1 : hdoor (rd l i) (rd l j) = x) (h2 : hdoor (rd l i) (rd l m) = y) (h3 : hdoor (rd l j) (rd l m) = z) :
    ((pairs i j m).filter fun x => !(dropH l x)) = (if x then [[i, j]] else []) ++ ((if y then [[i, m]] else []) ++ (if z then [[j, m]] else [])) := by
  unfold pairs
  rw [List.filter_cons, List.filter_cons, List.filter_cons, drop_two, drop_two, drop_two, h1, h2, h3]
  cases x <;> cases y <;> cases z <;> simp
end DoorsOfCell

theorem FnExactDoorsOfCell : laws_FnExactDoorsOfCell.Pure := by
  intro a l c _ _ _ _ _ hb
  have hm : l.length ≤ 1099511627776 := by omega
  obtain ⟨K, hK⟩ : ∃ K, l.length + 30000 ≤ K := ⟨_, Nat.le_refl _⟩
  obtain ⟨b, h1, h2, h3⟩ := meLabels_f a l hm K (by omega)
  cases b with
  | false =>
    refine ⟨K, ([], false), ?_, ?_, ⟨by simp, by simp⟩⟩
    · unfold spec_DoorsOfCell.f spec_doCell.f; rw [h1]; simp
    · unfold impl_DoorsOfCell.f; rw [houseOf_no h2]; simp
  | true =>
    obtain ⟨cs, bd, H⟩ := hse_of h2
    obtain ⟨b, c1, c2, c3⟩ := DoorsOfCell.cell_f (c := c) H.n1 H.n8
    have hsc : spec_doCell.f K a l c = some b := by
      unfold spec_doCell.f
      rw [h1, Option.bind_some, if_pos rfl, c2, Option.bind_some]
    cases b with
    | false =>
      refine ⟨K, ([], false), ?_, ?_, ⟨by simp, by simp⟩⟩
      · unfold spec_DoorsOfCell.f; rw [hsc]; simp
      · unfold impl_DoorsOfCell.f
        rw [houseOf_yes h2 H.cls K (by omega), Option.bind_some]
        simp only [if_true]
        rw [c1]; simp
    | true =>
      obtain ⟨c0, c9⟩ := c3 rfl
      have hcl := H.cls.len
      have c9' : c < (cs.length : Int) := by omega
      obtain ⟨i, j, m, hc, t0, t1, t2, t3⟩ := H.cls.tri _ (cell_mem c0 c9')
      have hl := H.len
      have li := rd_lab H.lab (i := i) (by omega) (by omega)
      have lj := rd_lab H.lab (i := j) (by omega) (by omega)
      have lm := rd_lab H.lab (i := m) (by omega) (by omega)
      have f1 := doDoor_f (l := l) (p := i) (q := j) (by omega) (by omega) (by omega) (by omega)
      have f2 := doDoor_f (l := l) (p := i) (q := m) (by omega) (by omega) (by omega) (by omega)
      have f3 := doDoor_f (l := l) (p := j) (q := m) (by omega) (by omega) (by omega) (by omega)
      have g1 := hdoor_lab li lj
      have g2 := hdoor_lab li lm
      have g3 := hdoor_lab lj lm
      generalize (wrap64 (rd l i + rd l j) == 1) = x at f1 g1
      generalize (wrap64 (rd l i + rd l m) == 1) = y at f2 g2
      generalize (wrap64 (rd l j + rd l m) == 1) = z at f3 g3
      have e1 := DoorsOfCell.of_cell f1 f2 f3 K (by omega)
      have e2 := DoorsOfCell.pairs_f x y z g1 g2 g3
      have hin : (0 ≤ c ∧ c < (cs.length : Int)) ∧ cellIn l (rd_L1 cs c) := by
        refine ⟨⟨c0, c9'⟩, ?_⟩
        rw [hc]
        unfold cellIn
        rw [DoorsOfCell.r0, DoorsOfCell.r1, DoorsOfCell.r2]
        exact ⟨rfl, ⟨by omega, by omega⟩, ⟨by omega, by omega⟩, by omega, by omega⟩
      have hI : impl_house_doors.f a l cs bd c = some ((if x then [[i, j]] else []) ++ ((if y then [[i, m]] else []) ++ (if z then [[j, m]] else []))) := by
        unfold impl_house_doors.f
        rw [if_pos hin, hc, DoorsOfCell.r0, DoorsOfCell.r1, DoorsOfCell.r2, e2]
      refine ⟨K, (((if x then [[i, j]] else []) ++ ((if y then [[i, m]] else []) ++ (if z then [[j, m]] else []))), true), ?_, ?_, ?_⟩
      · unfold spec_DoorsOfCell.f
        rw [hsc, Option.bind_some, if_pos rfl, H.cls.sc K (by omega), Option.bind_some, if_pos c0, if_pos c9', hc, e1, Option.bind_some]
      · unfold impl_DoorsOfCell.f
        rw [houseOf_yes h2 H.cls K (by omega), Option.bind_some]
        simp only [if_true]
        rw [c1, Option.bind_some]
        simp only [if_true]
        rw [hI, Option.bind_some]
      · cases x <;> cases y <;> cases z <;> simp [Small]
end Go.Proofs.Ytcnplmajlanmdaa.Pure
