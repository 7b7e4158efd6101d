/- The law FnExactIndexOfPoint answers true for every int n and every list of ints: the program's IndexOfPoint and the reference's return the same, and the list is left alone. No condition. -/
import Derived.Test.YtjcnmcbapjkmhaaQx16
import Derived.Test.YtjcnmcbapjkmhaaPn
namespace Go.Proofs.Ytjcnmcbapjkmhaa.Pure
open Go.RowKit Go.Proofs.Ytjcnmcbapjkmhaa.Q Go.Proofs.Ytjcnmcbapjkmhaa.Given Go.Proofs.Ytjcnmcbapjkmhaa.Pz Go.Proofs.Ytjcnmcbapjkmhaa.Pm Go.Proofs.Ytjcnmcbapjkmhaa.Pn Go.Proofs.YtjcnmcbapjkmhaaW.PrintWords Go.Proofs.YtjcnmcbapjkmhaaW.PrintLast

namespace IndexOfPoint
/-- All points of a side: both find them at one place. -/
def chk (n : Nat) : Bool := (List.range (n + 1)).all fun a => (List.range (n + 1)).all fun b => if a + b ≤ n then (match spec_IndexOfPoint.f 200 n [(a : Int), (b : Int), ((n - a - b : Nat) : Int)], impl_IndexOfPoint.f 200 n [(a : Int), (b : Int), ((n - a - b : Nat) : Int)] with | some x, some y => x == y | _, _ => false) else true
set_option maxRecDepth 100000 in
theorem chks : ∀ n : Nat, 1 ≤ n → n ≤ 8 → chk n = true := by
  intro n h1 h2
  obtain rfl | rfl | rfl | rfl | rfl | rfl | rfl | rfl : n = 1 ∨ n = 2 ∨ n = 3 ∨ n = 4 ∨ n = 5 ∨ n = 6 ∨ n = 7 ∨ n = 8 := by omega
  all_goals decide +kernel

theorem same (n : Int) (l : List Int) (k : Nat) (hk : l.length + 300 ≤ k) (hm : l.length ≤ 1099511627776) : ∃ g, spec_IndexOfPoint.f k n l = some g ∧ impl_IndexOfPoint.f k n l = some g := by
  cases hs : inRange n 1 8 with
  | false => exact ⟨(0, false), by unfold spec_IndexOfPoint.f; simp [meSide_f, hs], by unfold impl_IndexOfPoint.f; simp [isSide_f, hs]⟩
  | true =>
    by_cases h3 : (l.length : Int) = 3
    case neg => exact ⟨(0, false), by unfold spec_IndexOfPoint.f; simp [meSide_f, hs, h3], by unfold impl_IndexOfPoint.f; simp [isSide_f, hs, h3]⟩
    have hn := hs
    unfold inRange at hn
    simp only [Bool.and_eq_true, decide_eq_true_eq] at hn
    obtain ⟨a, b, c, rfl⟩ : ∃ a b c, l = [a, b, c] := by
      match l, h3 with
      | [a, b, c], _ => exact ⟨a, b, c, rfl⟩
    by_cases hc : (0 ≤ a ∧ 0 ≤ b ∧ 0 ≤ c) ∧ a + b + c = n
    · obtain ⟨⟨h0, h1, h2⟩, hsum⟩ := hc
      obtain ⟨N, rfl⟩ := Int.eq_ofNat_of_zero_le (show 0 ≤ n by omega)
      obtain ⟨A, rfl⟩ := Int.eq_ofNat_of_zero_le h0
      obtain ⟨B, rfl⟩ := Int.eq_ofNat_of_zero_le h1
      obtain rfl : c = ((N - A - B : Nat) : Int) := by omega
      have hch := chks N (by omega) (by omega)
      unfold chk at hch
      rw [List.all_eq_true] at hch
      have h := hch A (List.mem_range.mpr (by omega))
      rw [List.all_eq_true] at h
      have h := h B (List.mem_range.mpr (by omega))
      rw [if_pos (by omega)] at h
      cases e1 : spec_IndexOfPoint.f 200 (N : Int) [(A : Int), (B : Int), ((N - A - B : Nat) : Int)] with
      | none => rw [e1] at h; simp at h
      | some x =>
        cases e2 : impl_IndexOfPoint.f 200 (N : Int) [(A : Int), (B : Int), ((N - A - B : Nat) : Int)] with
        | none => rw [e1, e2] at h; simp at h
        | some y =>
          rw [e1, e2] at h
          obtain rfl := eq_of_beq h
          exact ⟨x, at_rounds (g := fun k => spec_IndexOfPoint.f k _ _) (fun k => spec_IndexOfPoint.mono _ _ _) (by simp at hk; omega) e1, at_rounds (g := fun k => impl_IndexOfPoint.f k _ _) (fun k => impl_IndexOfPoint.mono _ _ _) (by simp at hk; omega) e2⟩
    · refine ⟨(0, false), ?_, ?_⟩
      · unfold spec_IndexOfPoint.f
        simp only [meSide_f, hs, Option.bind_some, if_true]
        rw [if_pos h3, l1All_f _ 0 n hm k (by omega), Option.bind_some]
        cases ha : ([a, b, c].all fun x => inRange x 0 n)
        · simp
        · simp only [List.all_cons, List.all_nil, Bool.and_true, Bool.and_eq_true, inRange, decide_eq_true_eq] at ha
          have e : ¬ wrap64 (wrap64 (a + b) + c) = n := by
            rw [wr (x := a + b) (by omega) (by omega), wr (by omega) (by omega)]
            intro e
            exact hc ⟨⟨ha.1.1, ha.2.1.1, ha.2.2.1⟩, e⟩
          show (if wrap64 (wrap64 (a + b) + c) = n then _ else _) = _
          rw [if_neg e]
      · obtain ⟨ps, hp⟩ := pts_of hn.1 hn.2
        unfold impl_IndexOfPoint.f
        simp only [isSide_f, hs, Option.bind_some, if_true]
        rw [if_pos h3, hp.pts k (by omega), Option.bind_some]
        show ((slices_Index_3_int_3_int.f ps a b c).bind _) = _
        unfold slices_Index_3_int_3_int.f
        rw [gidx_miss (eqS a b c) z47 ps 0 (fun j hj => ?_)]
        · rfl
        · have hlow := hp.low j (by rw [← hp.len]; exact hj)
          have e : rd_T47 ps (j : Int) = ps.getD j z47 := by simp [rd_T47]
          rw [e] at hlow
          generalize ps.getD j z47 = p at hlow
          unfold eqS
          cases he : (a == p.f0 && (b == p.f1 && c == p.f2))
          · rfl
          · simp only [Bool.and_eq_true, beq_iff_eq] at he
            exact absurd (show (0 ≤ a ∧ 0 ≤ b ∧ 0 ≤ c) ∧ a + b + c = n by omega) hc
end IndexOfPoint

theorem FnExactIndexOfPoint : laws_FnExactIndexOfPoint.Pure := by
  intro a l _ _ _ _
  by_cases hb : (l.length : Int) > 1048576
  · exact ⟨1, by unfold laws_FnExactIndexOfPoint.f; rw [if_pos hb]⟩
  · refine ⟨l.length + 400, ?_⟩
    have hm : l.length ≤ 1099511627776 := by omega
    have ht : ∀ k, l.length < k → laws_toIntS.f k l = some l := fun k hk => toIntS_f l hm k hk
    have he : ∀ k, l.length < k → laws_eqIntS.f k l l = some true := fun k hk => by rw [eqIntS_f l l hm k hk]; simp
    obtain ⟨g, g1, g2⟩ := IndexOfPoint.same a l (l.length + 400) (by omega) hm
    unfold laws_FnExactIndexOfPoint.f
    rw [if_neg hb, ht _ (by omega)]
    simp only [Option.bind_some, g1, g2]
    simp [laws_FnExactIndexOfPoint.j0, ht (l.length + 399) (by omega), he (l.length + 399) (by omega)]
end Go.Proofs.Ytjcnmcbapjkmhaa.Pure
