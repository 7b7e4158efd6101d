/- The law FnSquaresAreCut answers true for all bytes: points of squares are their numbers and back, borders go round with opposite points half a way on. No condition. -/
import Derived.Test.YtmdhclpkbopmdaaQx7
import Derived.Test.YtmdhclpkbopmdaaHd
import Derived.Test.YtmdhclpkbopmdaaPj
import Derived.Test.YtmdhclpkbopmdaaPs
namespace Go.Proofs.Ytmdhclpkbopmdaa.Pure
open Go.RowKit Go.Proofs.Ytmdhclpkbopmdaa.Q Go.Proofs.Ytmdhclpkbopmdaa.Given Go.Proofs.Ytmdhclpkbopmdaa.Pj Go.Proofs.Ytmdhclpkbopmdaa.Ps Go.Proofs.YtmdhclpkbopmdaaW.PrintWords Go.Proofs.YtmdhclpkbopmdaaW.PrintLast
set_option linter.unusedVariables false
set_option linter.unusedSimpArgs false

namespace SquaresAreCut
/-- A point, its number and back. -/
def chk0 (n i : Int) : Bool := match impl_SquareAt.f n i, spec_SquareAt.f n i with
  | some a, some b => (a == b) && decide (a.1.length ≤ 10) && (!a.2 || (decide (a.1.length = 2) && (impl_SquareIndex.f n (rd a.1 0) (rd a.1 1) == some (i, true))))
  | _, _ => false
theorem chk0_all : ((List.range 7).all fun a => (List.range 50).all fun b => chk0 ((a : Int) - 1) ((b : Int) - 1)) = true := by decide +kernel
def chk1 (n x y : Int) : Bool := (impl_SquareIndex.f n x y).isSome && (impl_SquareIndex.f n x y == spec_SquareIndex.f n x y)
theorem chk1_all : ((List.range 7).all fun a => (List.range 9).all fun b => (List.range 9).all fun c => chk1 ((a : Int) - 1) ((b : Int) - 4) ((c : Int) - 4)) = true := by decide +kernel
def G (k : Nat) (t : Int) : Option Bool := ((impl_SquareBorder.f k t).bind fun bt266 => ((spec_SquareBorder.f k t).bind fun bt270 => ((impl_SquareCells.f k t).bind fun bt274 => ((spec_SquareCells.f k t).bind fun bt278 => ((impl_CountSquare.f t).bind fun bt282 => ((spec_CountSquare.f t).bind fun bt284 => (if (bt266.2 != bt270.2) = true then (laws_FnSquaresAreCut.j3 k t bt266.1 bt266.2 bt274.1 bt282.1 true) else ((laws_uSame.f k bt266.1 bt270.1).bind fun t286 => (if t286 = true then (if (bt274.2 != bt278.2) = true then (laws_FnSquaresAreCut.j3 k t bt266.1 bt266.2 bt274.1 bt282.1 true) else ((laws_uSameRows.f k bt274.1 bt278.1).bind fun t287 => (if t287 = true then (if (bt282.2 != bt284.2) = true then (laws_FnSquaresAreCut.j3 k t bt266.1 bt266.2 bt274.1 bt282.1 true) else (if bt282.1 = bt284.1 then (if (bt274.2 != bt266.2) = true then (laws_FnSquaresAreCut.j3 k t bt266.1 bt266.2 bt274.1 bt282.1 true) else (laws_FnSquaresAreCut.j3 k t bt266.1 bt266.2 bt274.1 bt282.1 (bt282.2 != bt266.2))) else (laws_FnSquaresAreCut.j3 k t bt266.1 bt266.2 bt274.1 bt282.1 true))) else (laws_FnSquaresAreCut.j3 k t bt266.1 bt266.2 bt274.1 bt282.1 true)))) else (laws_FnSquaresAreCut.j3 k t bt266.1 bt266.2 bt274.1 bt282.1 true))))))))))
theorem j2_G (k : Nat) (x1 : List Int) (t : Int) (h : spec_DrawSquareBorder.f x1 = some t) : laws_FnSquaresAreCut.j2 (k + 1) x1 false = G k t := by
  rw [laws_FnSquaresAreCut.j2, if_neg (by decide), h, Option.bind_some]
  rfl
set_option maxRecDepth 1000000 in
theorem G0 : G 200000 0 = some true := by decide +kernel
set_option maxRecDepth 1000000 in
theorem Gm : G 200000 (-1) = some true := by decide +kernel
set_option maxRecDepth 1000000 in
theorem G1 : G 200000 1 = some true := by decide +kernel
set_option maxRecDepth 1000000 in
theorem G2 : G 200000 2 = some true := by decide +kernel
set_option maxRecDepth 1000000 in
theorem G3 : G 200000 3 = some true := by decide +kernel
set_option maxRecDepth 1000000 in
theorem G4 : G 200000 4 = some true := by decide +kernel
set_option maxRecDepth 1000000 in
theorem G5 : G 200000 5 = some true := by decide +kernel
theorem G_all {t : Int} (h0 : -1 ≤ t) (h1 : t ≤ 5) : G 200000 t = some true := by
  obtain rfl | rfl | rfl | rfl | rfl | rfl | rfl : t = -1 ∨ t = 0 ∨ t = 1 ∨ t = 2 ∨ t = 3 ∨ t = 4 ∨ t = 5 := by omega
  · exact Gm
  · exact G0
  · exact G1
  · exact G2
  · exact G3
  · exact G4
  · exact G5
theorem c0 {a b : Int} (a0 : 0 ≤ a) (a1 : a < 7) (b0 : 0 ≤ b) (b1 : b < 50) : chk0 (a - 1) (b - 1) = true := by
  have h := chk0_all
  simp only [List.all_eq_true, List.mem_range] at h
  have := h a.toNat (by omega) b.toNat (by omega)
  rwa [Int.toNat_of_nonneg a0, Int.toNat_of_nonneg b0] at this
theorem c1 {a b c : Int} (a0 : 0 ≤ a) (a1 : a < 7) (b0 : 0 ≤ b) (b1 : b < 9) (d0 : 0 ≤ c) (d1 : c < 9) : chk1 (a - 1) (b - 4) (c - 4) = true := by
  have h := chk1_all
  simp only [List.all_eq_true, List.mem_range] at h
  have := h a.toNat (by omega) b.toNat (by omega) c.toNat (by omega)
  rwa [Int.toNat_of_nonneg a0, Int.toNat_of_nonneg b0, Int.toNat_of_nonneg d0] at this
theorem at_of {n i : Int} (h : chk0 n i = true) : ∃ a, impl_SquareAt.f n i = some a ∧ spec_SquareAt.f n i = some a ∧ a.1.length ≤ 10 ∧ (a.2 = true → a.1.length = 2 ∧ impl_SquareIndex.f n (rd a.1 0) (rd a.1 1) = some (i, true)) := by
  unfold chk0 at h
  split at h
  · rename_i a b ha hb
    simp only [Bool.and_eq_true, Bool.or_eq_true, beq_iff_eq, decide_eq_true_eq, Bool.not_eq_true'] at h
    obtain ⟨⟨rfl, h2⟩, h3⟩ := h
    refine ⟨a, ha, hb, h2, fun ht => ?_⟩
    rcases h3 with h3 | h3
    · rw [h3] at ht; cases ht
    · exact h3
  · cases h
theorem index_of {n x y : Int} (h : chk1 n x y = true) : ∃ a, impl_SquareIndex.f n x y = some a ∧ spec_SquareIndex.f n x y = some a := by
  unfold chk1 at h
  simp only [Bool.and_eq_true, beq_iff_eq] at h
  obtain ⟨a, ha⟩ := Option.isSome_iff_exists.mp h.1
  exact ⟨a, ha, h.2 ▸ ha⟩
theorem j1_ok {l : List Int} (hl : Bytes l) : laws_FnSquaresAreCut.j1 200002 l = some true := by
  obtain ⟨t, s1, s2, e1, a0, a1, _, b0, b1⟩ := pick_ok hl 0 0 7 (by omega) (by omega)
  obtain ⟨u, s3, s4, e2, a2, a3, _, b2, b3⟩ := pick_ok hl s1 s2 9 (by omega) (by omega)
  obtain ⟨v, s5, s6, e3, a4, a5, _, _, _⟩ := pick_ok hl s3 s4 9 (by omega) (by omega)
  have hd : spec_DrawSquareIndex.f l = some (t - 1, u - 4, v - 4) := by
    unfold spec_DrawSquareIndex.f
    rw [e1, Option.bind_some, e2, Option.bind_some, e3, Option.bind_some]
    simp only
    rw [wr (by omega) (by omega), wr (by omega) (by omega), wr (by omega) (by omega)]
  obtain ⟨a, g1, g2⟩ := index_of (c1 a0 (a1 (by omega)) a2 (a3 (by omega)) a4 (a5 (by omega)))
  have hb : spec_DrawSquareBorder.f l = some (t - 1) := by
    unfold spec_DrawSquareBorder.f spec_DrawCountSquare.f
    rw [e1, Option.bind_some, Option.bind_some, wr (by simp only; omega) (by simp only; omega)]
  have hG := G_all (t := t - 1) (by omega) (by have := a1 (by omega); omega)
  obtain ⟨K, hK⟩ : ∃ K, K = 200000 := ⟨_, rfl⟩
  rw [← hK] at hG
  show laws_FnSquaresAreCut.j1 (200000 + 1 + 1) l = some true
  rw [← hK, laws_FnSquaresAreCut.j1, hd, Option.bind_some]
  simp only
  rw [g1, Option.bind_some, g2, Option.bind_some, if_neg (by simp), show (a.1 != a.1) = false by simp, j2_G K l _ hb]
  exact hG
end SquaresAreCut

theorem FnSquaresAreCut : laws_FnSquaresAreCut.Pure := by
  intro l0 l1 _ _ h0 m1 _ h1
  have hb0 := bytes_of h0
  have hb1 := bytes_of h1
  obtain ⟨t, s1, s2, e1, a0, a1, _, b0, b1⟩ := pick_ok hb0 0 0 7 (by omega) (by omega)
  obtain ⟨u, s3, s4, e2, a2, a3, _, b2, b3⟩ := pick_ok hb0 s1 s2 50 (by omega) (by omega)
  have hd : spec_DrawSquareAt.f l0 = some (t - 1, u - 1) := by
    unfold spec_DrawSquareAt.f
    rw [e1, Option.bind_some, e2, Option.bind_some]
    simp only
    rw [wr (by omega) (by omega), wr (by omega) (by omega)]
  obtain ⟨a, g1, g2, g3, g4⟩ := SquaresAreCut.at_of (SquaresAreCut.c0 a0 (a1 (by omega)) a2 (a3 (by omega)))
  have hj := SquaresAreCut.j1_ok hb1
  obtain ⟨K, hK⟩ : ∃ K, K = 200002 := ⟨_, rfl⟩
  rw [← hK] at hj
  refine ⟨K + 1, ?_⟩
  unfold laws_FnSquaresAreCut.f
  have hbig : ∃ b, laws_big.f l0 l1 = some b := by unfold laws_big.f; split <;> exact ⟨_, rfl⟩
  obtain ⟨b, hb⟩ := hbig
  rw [hb, Option.bind_some]
  cases b with
  | true => rfl
  | false =>
    rw [if_neg (by decide), hd, Option.bind_some]
    simp only
    rw [g1, Option.bind_some, g2, Option.bind_some, if_neg (by simp), same_f a.1 (by omega) (K + 1) (by omega), Option.bind_some, laws_FnSquaresAreCut.j0, if_neg (by decide)]
    by_cases h : a.2 = true
    · obtain ⟨q1, q2⟩ := g4 h
      rw [if_pos h, if_pos (by omega), if_pos (by omega), q2, Option.bind_some]
      simp only
      rw [if_pos trivial, if_pos trivial]
      exact hj
    · rw [if_neg h, hj]
end Go.Proofs.Ytmdhclpkbopmdaa.Pure
