-- PRINTED by print.py (a twelfth state) out of the translation. Not trusted: Lean checks it.
import Derived.Test.YtmdhclpkbopmdaaQx0
import Derived.Test.YtmdhclpkbopmdaaQx1
import Derived.Test.YtmdhclpkbopmdaaQx2
import Derived.Test.YtmdhclpkbopmdaaQx3
import Derived.Test.YtmdhclpkbopmdaaQx4
import Derived.Test.YtmdhclpkbopmdaaQx5
import Derived.Test.YtmdhclpkbopmdaaQx6
import Derived.Test.YtmdhclpkbopmdaaHd
namespace Go.Proofs.Ytmdhclpkbopmdaa.Given
end Go.Proofs.Ytmdhclpkbopmdaa.Given
namespace Go.Proofs.Ytmdhclpkbopmdaa.Q
open Go.Proofs.Ytmdhclpkbopmdaa.Given Go.RowKit Go.Proofs.YtmdhclpkbopmdaaW.PrintWords Go.Proofs.YtmdhclpkbopmdaaW.PrintLast Go.Proofs.YtmdhclpkbopmdaaW.PrintMore
attribute [local go_sem] max2_int min2_int max_two min_two max_three min_three max_four min_four   -- for this text's walks alone
set_option linter.unusedVariables false
set_option linter.unusedSimpArgs false

/-! ### laws_FnSquaresAreCut: function 13 -/
mutual
def laws_FnSquaresAreCut.j0 : Nat → List Int → Int → Int → List Int → Bool → Bool → Option (Bool)
  | 0, _, _, _, _, _, _ => none
  | k + 1, x1, x5, x6, x7, x8, x64 => if x64 = true then (some false) else (if x8 = true then (if 0 < (x7.length : Int) then (if 1 < (x7.length : Int) then ((impl_SquareIndex.f x5 (rd x7 0) (rd x7 1)).bind fun bt256 => (if bt256.2 = true then (if bt256.1 = x6 then (laws_FnSquaresAreCut.j1 k x1) else (some false)) else (some false))) else (none)) else (none)) else (laws_FnSquaresAreCut.j1 k x1))
def laws_FnSquaresAreCut.j1 : Nat → List Int → Option (Bool)
  | 0, _ => none
  | k + 1, x1 => (spec_DrawSquareIndex.f x1).bind fun bt258 => ((impl_SquareIndex.f bt258.1 bt258.2.1 bt258.2.2).bind fun bt261 => ((spec_SquareIndex.f bt258.1 bt258.2.1 bt258.2.2).bind fun bt263 => (if (bt261.2 != bt263.2) = true then (laws_FnSquaresAreCut.j2 k x1 true) else (laws_FnSquaresAreCut.j2 k x1 (bt261.1 != bt263.1)))))
def laws_FnSquaresAreCut.j2 : Nat → List Int → Bool → Option (Bool)
  | 0, _, _ => none
  | k + 1, x1, x111 => if x111 = true then (some false) else ((spec_DrawSquareBorder.f x1).bind fun t265 => ((impl_SquareBorder.f k t265).bind fun bt266 => ((spec_SquareBorder.f k t265).bind fun bt270 => ((impl_SquareCells.f k t265).bind fun bt274 => ((spec_SquareCells.f k t265).bind fun bt278 => ((impl_CountSquare.f t265).bind fun bt282 => ((spec_CountSquare.f t265).bind fun bt284 => (if (bt266.2 != bt270.2) = true then (laws_FnSquaresAreCut.j3 k t265 bt266.1 bt266.2 bt274.1 bt282.1 true) else ((laws_uSame.f k bt266.1 bt270.1).bind fun t286 => (if t286 = true then (if (bt274.2 != bt278.2) = true then (laws_FnSquaresAreCut.j3 k t265 bt266.1 bt266.2 bt274.1 bt282.1 true) else ((laws_uSameRows.f k bt274.1 bt278.1).bind fun t287 => (if t287 = true then (if (bt282.2 != bt284.2) = true then (laws_FnSquaresAreCut.j3 k t265 bt266.1 bt266.2 bt274.1 bt282.1 true) else (if bt282.1 = bt284.1 then (if (bt274.2 != bt266.2) = true then (laws_FnSquaresAreCut.j3 k t265 bt266.1 bt266.2 bt274.1 bt282.1 true) else (laws_FnSquaresAreCut.j3 k t265 bt266.1 bt266.2 bt274.1 bt282.1 (bt282.2 != bt266.2))) else (laws_FnSquaresAreCut.j3 k t265 bt266.1 bt266.2 bt274.1 bt282.1 true))) else (laws_FnSquaresAreCut.j3 k t265 bt266.1 bt266.2 bt274.1 bt282.1 true)))) else (laws_FnSquaresAreCut.j3 k t265 bt266.1 bt266.2 bt274.1 bt282.1 true)))))))))))
def laws_FnSquaresAreCut.j3 : Nat → Int → List Int → Bool → List (List Int) → Int → Bool → Option (Bool)
  | 0, _, _, _, _, _, _ => none
  | k + 1, x20, x21, x22, x25, x29, x183 => if x183 = true then (some false) else (if x22 = true then (if (x21.length : Int) = (wrap64 (8 * x20)) then (if (x25.length : Int) = (wrap64 ((wrap64 (8 * x20)) * x20)) then (laws_FnSquaresAreCut.j4 k x20 x21 x25 x29 (x29 != (wrap64 ((wrap64 ((wrap64 (2 * x20)) + 1)) * (wrap64 ((wrap64 (2 * x20)) + 1)))))) else (laws_FnSquaresAreCut.j4 k x20 x21 x25 x29 true)) else (laws_FnSquaresAreCut.j4 k x20 x21 x25 x29 true)) else (some true))
def laws_FnSquaresAreCut.j4 : Nat → Int → List Int → List (List Int) → Int → Bool → Option (Bool)
  | 0, _, _, _, _, _ => none
  | k + 1, x20, x21, x25, x29, x210 => if x210 = true then (some false) else (laws_FnSquaresAreCut.l0 k x20 x21 x25 x29 x21 (x21.length : Int) 0)
def laws_FnSquaresAreCut.l0 : Nat → Int → List Int → List (List Int) → Int → List Int → Int → Int → Option (Bool)
  | 0, _, _, _, _, _, _, _ => none
  | k + 1, x20, x21, x25, x29, x211, x212, x213 => if x213 < x212 then (if 0 ≤ x213 then (if x213 < (x211.length : Int) then (if (x21.length : Int) = 0 then (none) else (if 0 ≤ (Int.tmod (wrap64 (x213 + (wrap64 (4 * x20)))) (x21.length : Int)) then (if (Int.tmod (wrap64 (x213 + (wrap64 (4 * x20)))) (x21.length : Int)) < (x21.length : Int) then (if (rd x21 (Int.tmod (wrap64 (x213 + (wrap64 (4 * x20)))) (x21.length : Int))) = (wrap64 ((wrap64 (x29 - 1)) - (rd x211 x213))) then (laws_FnSquaresAreCut.l0 k x20 x21 x25 x29 x211 x212 (wrap64 (x213 + 1))) else (some false)) else (none)) else (none))) else (none)) else (none)) else (laws_FnSquaresAreCut.l1 k x25 1)
def laws_FnSquaresAreCut.l1 : Nat → List (List Int) → Int → Option (Bool)
  | 0, _, _ => none
  | k + 1, x25, x35 => if x35 < (x25.length : Int) then (if 0 ≤ (wrap64 (x35 - 1)) then (if (wrap64 (x35 - 1)) < (x25.length : Int) then (if 0 ≤ x35 then ((laws_uLess.f k (rd_L1 x25 (wrap64 (x35 - 1))) (rd_L1 x25 x35)).bind fun t292 => (if t292 = true then (laws_FnSquaresAreCut.l1 k x25 (wrap64 (x35 + 1))) else (some false))) else (none)) else (none)) else (none)) else (some true)
end
def laws_FnSquaresAreCut.f (k : Nat) (l0 : List Int) (l1 : List Int) : Option (Bool) := (laws_big.f l0 l1).bind fun t242 => (if t242 = true then (some true) else ((spec_DrawSquareAt.f l0).bind fun bt243 => ((impl_SquareAt.f bt243.1 bt243.2).bind fun bt245 => ((spec_SquareAt.f bt243.1 bt243.2).bind fun bt249 => (if (bt245.2 != bt249.2) = true then (laws_FnSquaresAreCut.j0 k l1 bt243.1 bt243.2 bt245.1 bt245.2 true) else ((laws_uSame.f k bt245.1 bt249.1).bind fun t253 => (laws_FnSquaresAreCut.j0 k l1 bt243.1 bt243.2 bt245.1 bt245.2 (!t253))))))))
theorem laws_FnSquaresAreCut.mono_l : ∀ k, (∀ y0 y1 y2 y3 y4 y5, LeO (laws_FnSquaresAreCut.j0 k y0 y1 y2 y3 y4 y5) (laws_FnSquaresAreCut.j0 (k + 1) y0 y1 y2 y3 y4 y5)) ∧ (∀ y0, LeO (laws_FnSquaresAreCut.j1 k y0) (laws_FnSquaresAreCut.j1 (k + 1) y0)) ∧ (∀ y0 y1, LeO (laws_FnSquaresAreCut.j2 k y0 y1) (laws_FnSquaresAreCut.j2 (k + 1) y0 y1)) ∧ (∀ y0 y1 y2 y3 y4 y5, LeO (laws_FnSquaresAreCut.j3 k y0 y1 y2 y3 y4 y5) (laws_FnSquaresAreCut.j3 (k + 1) y0 y1 y2 y3 y4 y5)) ∧ (∀ y0 y1 y2 y3 y4, LeO (laws_FnSquaresAreCut.j4 k y0 y1 y2 y3 y4) (laws_FnSquaresAreCut.j4 (k + 1) y0 y1 y2 y3 y4)) ∧ (∀ y0 y1 y2 y3 y4 y5 y6, LeO (laws_FnSquaresAreCut.l0 k y0 y1 y2 y3 y4 y5 y6) (laws_FnSquaresAreCut.l0 (k + 1) y0 y1 y2 y3 y4 y5 y6)) ∧ (∀ y0 y1, LeO (laws_FnSquaresAreCut.l1 k y0 y1) (laws_FnSquaresAreCut.l1 (k + 1) y0 y1))
  | 0 => ⟨fun _ _ _ _ _ _ r h => by simp [laws_FnSquaresAreCut.j0] at h, fun _ r h => by simp [laws_FnSquaresAreCut.j1] at h, fun _ _ r h => by simp [laws_FnSquaresAreCut.j2] at h, fun _ _ _ _ _ _ r h => by simp [laws_FnSquaresAreCut.j3] at h, fun _ _ _ _ _ r h => by simp [laws_FnSquaresAreCut.j4] at h, fun _ _ _ _ _ _ _ r h => by simp [laws_FnSquaresAreCut.l0] at h, fun _ _ r h => by simp [laws_FnSquaresAreCut.l1] at h⟩
  | k + 1 => by
    obtain ⟨ih0, ih1, ih2, ih3, ih4, ih5, ih6⟩ := laws_FnSquaresAreCut.mono_l k
    refine ⟨?_, ?_, ?_, ?_, ?_, ?_, ?_⟩
    · intro y0 y1 y2 y3 y4 y5
      unfold laws_FnSquaresAreCut.j0
      repeat' first
      | (with_reducible exact ih0 _ _ _ _ _ _)
      | (with_reducible exact ih1 _)
      | (with_reducible exact ih2 _ _)
      | (with_reducible exact ih3 _ _ _ _ _ _)
      | (with_reducible exact ih4 _ _ _ _ _)
      | (with_reducible exact ih5 _ _ _ _ _ _ _)
      | (with_reducible exact ih6 _ _)
      | (with_reducible exact impl_SquareBorder.mono _ _)
      | (with_reducible exact impl_SquareCells.mono _ _)
      | (with_reducible exact laws_uLess.mono _ _ _)
      | (with_reducible exact laws_uSame.mono _ _ _)
      | (with_reducible exact laws_uSameRows.mono _ _ _)
      | (with_reducible exact spec_SquareBorder.mono _ _)
      | (with_reducible exact spec_SquareCells.mono _ _)
      | (with_reducible exact LeO.refl _)
      | (with_reducible exact LeO.none _)
      | (with_reducible refine LeO.ite ?_ ?_)
      | (with_reducible refine LeO.bind ?_ (fun _ => ?_))
      | exact ih0 _ _ _ _ _ _
      | exact ih1 _
      | exact ih2 _ _
      | exact ih3 _ _ _ _ _ _
      | exact ih4 _ _ _ _ _
      | exact ih5 _ _ _ _ _ _ _
      | exact ih6 _ _
      | exact impl_SquareBorder.mono _ _
      | exact impl_SquareCells.mono _ _
      | exact laws_uLess.mono _ _ _
      | exact laws_uSame.mono _ _ _
      | exact laws_uSameRows.mono _ _ _
      | exact spec_SquareBorder.mono _ _
      | exact spec_SquareCells.mono _ _
      | exact LeO.none _
      | refine LeO.ite ?_ ?_
      | refine LeO.bind ?_ (fun _ => ?_)
    · intro y0
      unfold laws_FnSquaresAreCut.j1
      repeat' first
      | (with_reducible exact ih0 _ _ _ _ _ _)
      | (with_reducible exact ih1 _)
      | (with_reducible exact ih2 _ _)
      | (with_reducible exact ih3 _ _ _ _ _ _)
      | (with_reducible exact ih4 _ _ _ _ _)
      | (with_reducible exact ih5 _ _ _ _ _ _ _)
      | (with_reducible exact ih6 _ _)
      | (with_reducible exact impl_SquareBorder.mono _ _)
      | (with_reducible exact impl_SquareCells.mono _ _)
      | (with_reducible exact laws_uLess.mono _ _ _)
      | (with_reducible exact laws_uSame.mono _ _ _)
      | (with_reducible exact laws_uSameRows.mono _ _ _)
      | (with_reducible exact spec_SquareBorder.mono _ _)
      | (with_reducible exact spec_SquareCells.mono _ _)
      | (with_reducible exact LeO.refl _)
      | (with_reducible exact LeO.none _)
      | (with_reducible refine LeO.ite ?_ ?_)
      | (with_reducible refine LeO.bind ?_ (fun _ => ?_))
      | exact ih0 _ _ _ _ _ _
      | exact ih1 _
      | exact ih2 _ _
      | exact ih3 _ _ _ _ _ _
      | exact ih4 _ _ _ _ _
      | exact ih5 _ _ _ _ _ _ _
      | exact ih6 _ _
      | exact impl_SquareBorder.mono _ _
      | exact impl_SquareCells.mono _ _
      | exact laws_uLess.mono _ _ _
      | exact laws_uSame.mono _ _ _
      | exact laws_uSameRows.mono _ _ _
      | exact spec_SquareBorder.mono _ _
      | exact spec_SquareCells.mono _ _
      | exact LeO.none _
      | refine LeO.ite ?_ ?_
      | refine LeO.bind ?_ (fun _ => ?_)
    · intro y0 y1
      unfold laws_FnSquaresAreCut.j2
      repeat' first
      | (with_reducible exact ih0 _ _ _ _ _ _)
      | (with_reducible exact ih1 _)
      | (with_reducible exact ih2 _ _)
      | (with_reducible exact ih3 _ _ _ _ _ _)
      | (with_reducible exact ih4 _ _ _ _ _)
      | (with_reducible exact ih5 _ _ _ _ _ _ _)
      | (with_reducible exact ih6 _ _)
      | (with_reducible exact impl_SquareBorder.mono _ _)
      | (with_reducible exact impl_SquareCells.mono _ _)
      | (with_reducible exact laws_uLess.mono _ _ _)
      | (with_reducible exact laws_uSame.mono _ _ _)
      | (with_reducible exact laws_uSameRows.mono _ _ _)
      | (with_reducible exact spec_SquareBorder.mono _ _)
      | (with_reducible exact spec_SquareCells.mono _ _)
      | (with_reducible exact LeO.refl _)
      | (with_reducible exact LeO.none _)
      | (with_reducible refine LeO.ite ?_ ?_)
      | (with_reducible refine LeO.bind ?_ (fun _ => ?_))
      | exact ih0 _ _ _ _ _ _
      | exact ih1 _
      | exact ih2 _ _
      | exact ih3 _ _ _ _ _ _
      | exact ih4 _ _ _ _ _
      | exact ih5 _ _ _ _ _ _ _
      | exact ih6 _ _
      | exact impl_SquareBorder.mono _ _
      | exact impl_SquareCells.mono _ _
      | exact laws_uLess.mono _ _ _
      | exact laws_uSame.mono _ _ _
      | exact laws_uSameRows.mono _ _ _
      | exact spec_SquareBorder.mono _ _
      | exact spec_SquareCells.mono _ _
      | exact LeO.none _
      | refine LeO.ite ?_ ?_
      | refine LeO.bind ?_ (fun _ => ?_)
    · intro y0 y1 y2 y3 y4 y5
      unfold laws_FnSquaresAreCut.j3
      repeat' first
      | (with_reducible exact ih0 _ _ _ _ _ _)
      | (with_reducible exact ih1 _)
      | (with_reducible exact ih2 _ _)
      | (with_reducible exact ih3 _ _ _ _ _ _)
      | (with_reducible exact ih4 _ _ _ _ _)
      | (with_reducible exact ih5 _ _ _ _ _ _ _)
      | (with_reducible exact ih6 _ _)
      | (with_reducible exact impl_SquareBorder.mono _ _)
      | (with_reducible exact impl_SquareCells.mono _ _)
      | (with_reducible exact laws_uLess.mono _ _ _)
      | (with_reducible exact laws_uSame.mono _ _ _)
      | (with_reducible exact laws_uSameRows.mono _ _ _)
      | (with_reducible exact spec_SquareBorder.mono _ _)
      | (with_reducible exact spec_SquareCells.mono _ _)
      | (with_reducible exact LeO.refl _)
      | (with_reducible exact LeO.none _)
      | (with_reducible refine LeO.ite ?_ ?_)
      | (with_reducible refine LeO.bind ?_ (fun _ => ?_))
      | exact ih0 _ _ _ _ _ _
      | exact ih1 _
      | exact ih2 _ _
      | exact ih3 _ _ _ _ _ _
      | exact ih4 _ _ _ _ _
      | exact ih5 _ _ _ _ _ _ _
      | exact ih6 _ _
      | exact impl_SquareBorder.mono _ _
      | exact impl_SquareCells.mono _ _
      | exact laws_uLess.mono _ _ _
      | exact laws_uSame.mono _ _ _
      | exact laws_uSameRows.mono _ _ _
      | exact spec_SquareBorder.mono _ _
      | exact spec_SquareCells.mono _ _
      | exact LeO.none _
      | refine LeO.ite ?_ ?_
      | refine LeO.bind ?_ (fun _ => ?_)
    · intro y0 y1 y2 y3 y4
      unfold laws_FnSquaresAreCut.j4
      repeat' first
      | (with_reducible exact ih0 _ _ _ _ _ _)
      | (with_reducible exact ih1 _)
      | (with_reducible exact ih2 _ _)
      | (with_reducible exact ih3 _ _ _ _ _ _)
      | (with_reducible exact ih4 _ _ _ _ _)
      | (with_reducible exact ih5 _ _ _ _ _ _ _)
      | (with_reducible exact ih6 _ _)
      | (with_reducible exact impl_SquareBorder.mono _ _)
      | (with_reducible exact impl_SquareCells.mono _ _)
      | (with_reducible exact laws_uLess.mono _ _ _)
      | (with_reducible exact laws_uSame.mono _ _ _)
      | (with_reducible exact laws_uSameRows.mono _ _ _)
      | (with_reducible exact spec_SquareBorder.mono _ _)
      | (with_reducible exact spec_SquareCells.mono _ _)
      | (with_reducible exact LeO.refl _)
      | (with_reducible exact LeO.none _)
      | (with_reducible refine LeO.ite ?_ ?_)
      | (with_reducible refine LeO.bind ?_ (fun _ => ?_))
      | exact ih0 _ _ _ _ _ _
      | exact ih1 _
      | exact ih2 _ _
      | exact ih3 _ _ _ _ _ _
      | exact ih4 _ _ _ _ _
      | exact ih5 _ _ _ _ _ _ _
      | exact ih6 _ _
      | exact impl_SquareBorder.mono _ _
      | exact impl_SquareCells.mono _ _
      | exact laws_uLess.mono _ _ _
      | exact laws_uSame.mono _ _ _
      | exact laws_uSameRows.mono _ _ _
      | exact spec_SquareBorder.mono _ _
      | exact spec_SquareCells.mono _ _
      | exact LeO.none _
      | refine LeO.ite ?_ ?_
      | refine LeO.bind ?_ (fun _ => ?_)
    · intro y0 y1 y2 y3 y4 y5 y6
      unfold laws_FnSquaresAreCut.l0
      repeat' first
      | (with_reducible exact ih0 _ _ _ _ _ _)
      | (with_reducible exact ih1 _)
      | (with_reducible exact ih2 _ _)
      | (with_reducible exact ih3 _ _ _ _ _ _)
      | (with_reducible exact ih4 _ _ _ _ _)
      | (with_reducible exact ih5 _ _ _ _ _ _ _)
      | (with_reducible exact ih6 _ _)
      | (with_reducible exact impl_SquareBorder.mono _ _)
      | (with_reducible exact impl_SquareCells.mono _ _)
      | (with_reducible exact laws_uLess.mono _ _ _)
      | (with_reducible exact laws_uSame.mono _ _ _)
      | (with_reducible exact laws_uSameRows.mono _ _ _)
      | (with_reducible exact spec_SquareBorder.mono _ _)
      | (with_reducible exact spec_SquareCells.mono _ _)
      | (with_reducible exact LeO.refl _)
      | (with_reducible exact LeO.none _)
      | (with_reducible refine LeO.ite ?_ ?_)
      | (with_reducible refine LeO.bind ?_ (fun _ => ?_))
      | exact ih0 _ _ _ _ _ _
      | exact ih1 _
      | exact ih2 _ _
      | exact ih3 _ _ _ _ _ _
      | exact ih4 _ _ _ _ _
      | exact ih5 _ _ _ _ _ _ _
      | exact ih6 _ _
      | exact impl_SquareBorder.mono _ _
      | exact impl_SquareCells.mono _ _
      | exact laws_uLess.mono _ _ _
      | exact laws_uSame.mono _ _ _
      | exact laws_uSameRows.mono _ _ _
      | exact spec_SquareBorder.mono _ _
      | exact spec_SquareCells.mono _ _
      | exact LeO.none _
      | refine LeO.ite ?_ ?_
      | refine LeO.bind ?_ (fun _ => ?_)
    · intro y0 y1
      unfold laws_FnSquaresAreCut.l1
      repeat' first
      | (with_reducible exact ih0 _ _ _ _ _ _)
      | (with_reducible exact ih1 _)
      | (with_reducible exact ih2 _ _)
      | (with_reducible exact ih3 _ _ _ _ _ _)
      | (with_reducible exact ih4 _ _ _ _ _)
      | (with_reducible exact ih5 _ _ _ _ _ _ _)
      | (with_reducible exact ih6 _ _)
      | (with_reducible exact impl_SquareBorder.mono _ _)
      | (with_reducible exact impl_SquareCells.mono _ _)
      | (with_reducible exact laws_uLess.mono _ _ _)
      | (with_reducible exact laws_uSame.mono _ _ _)
      | (with_reducible exact laws_uSameRows.mono _ _ _)
      | (with_reducible exact spec_SquareBorder.mono _ _)
      | (with_reducible exact spec_SquareCells.mono _ _)
      | (with_reducible exact LeO.refl _)
      | (with_reducible exact LeO.none _)
      | (with_reducible refine LeO.ite ?_ ?_)
      | (with_reducible refine LeO.bind ?_ (fun _ => ?_))
      | exact ih0 _ _ _ _ _ _
      | exact ih1 _
      | exact ih2 _ _
      | exact ih3 _ _ _ _ _ _
      | exact ih4 _ _ _ _ _
      | exact ih5 _ _ _ _ _ _ _
      | exact ih6 _ _
      | exact impl_SquareBorder.mono _ _
      | exact impl_SquareCells.mono _ _
      | exact laws_uLess.mono _ _ _
      | exact laws_uSame.mono _ _ _
      | exact laws_uSameRows.mono _ _ _
      | exact spec_SquareBorder.mono _ _
      | exact spec_SquareCells.mono _ _
      | exact LeO.none _
      | refine LeO.ite ?_ ?_
      | refine LeO.bind ?_ (fun _ => ?_)
theorem laws_FnSquaresAreCut.mono : ∀ a0 a1 k, LeO (laws_FnSquaresAreCut.f k a0 a1) (laws_FnSquaresAreCut.f (k + 1) a0 a1) := by
  intro a0 a1 k
  obtain ⟨ih0, ih1, ih2, ih3, ih4, ih5, ih6⟩ := laws_FnSquaresAreCut.mono_l k
  unfold laws_FnSquaresAreCut.f
  repeat' first
      | (with_reducible exact ih0 _ _ _ _ _ _)
      | (with_reducible exact ih1 _)
      | (with_reducible exact ih2 _ _)
      | (with_reducible exact ih3 _ _ _ _ _ _)
      | (with_reducible exact ih4 _ _ _ _ _)
      | (with_reducible exact ih5 _ _ _ _ _ _ _)
      | (with_reducible exact ih6 _ _)
      | (with_reducible exact impl_SquareBorder.mono _ _)
      | (with_reducible exact impl_SquareCells.mono _ _)
      | (with_reducible exact laws_uLess.mono _ _ _)
      | (with_reducible exact laws_uSame.mono _ _ _)
      | (with_reducible exact laws_uSameRows.mono _ _ _)
      | (with_reducible exact spec_SquareBorder.mono _ _)
      | (with_reducible exact spec_SquareCells.mono _ _)
      | (with_reducible exact LeO.refl _)
      | (with_reducible exact LeO.none _)
      | (with_reducible refine LeO.ite ?_ ?_)
      | (with_reducible refine LeO.bind ?_ (fun _ => ?_))
      | exact ih0 _ _ _ _ _ _
      | exact ih1 _
      | exact ih2 _ _
      | exact ih3 _ _ _ _ _ _
      | exact ih4 _ _ _ _ _
      | exact ih5 _ _ _ _ _ _ _
      | exact ih6 _ _
      | exact impl_SquareBorder.mono _ _
      | exact impl_SquareCells.mono _ _
      | exact laws_uLess.mono _ _ _
      | exact laws_uSame.mono _ _ _
      | exact laws_uSameRows.mono _ _ _
      | exact spec_SquareBorder.mono _ _
      | exact spec_SquareCells.mono _ _
      | exact LeO.none _
      | refine LeO.ite ?_ ?_
      | refine LeO.bind ?_ (fun _ => ?_)
def laws_FnSquaresAreCut.T9 : Bool × List (List Nat × List Nat) := (true, [([], []), ([], []), ([1], [1]), ([2], [2]), ([], []), ([4], [4]), ([5], [5]), ([0, 3, 6], [0, 3, 6]), ([7], [7]), ([8], [8]), ([8], [8]), ([9, 7, 0, 1, 2, 3, 4, 5, 6, 7, 8, 9], [9]), ([10, 11, 0, 1, 2, 3, 4, 5, 6, 7, 8, 9, 10, 11], [10])])
def laws_FnSquaresAreCut.B9 : List Nat := [0, 0, 2, 6, 0, 16, 48, 127, 255, 511, 511, 1023, 4095]
theorem laws_FnSquaresAreCut.tab9 : rtab .any (opsOf Try.f13 9) = laws_FnSquaresAreCut.T9 := by kernel_rfl
theorem laws_FnSquaresAreCut.bits9 : waitsOk laws_FnSquaresAreCut.T9.2 laws_FnSquaresAreCut.B9 = true := by kernel_rfl
def laws_FnSquaresAreCut.T39 : Bool × List (List Nat × List Nat) := (true, [([], []), ([], []), ([1], [1]), ([0, 2], [0, 2]), ([3], [3]), ([], []), ([], []), ([5, 6], [5, 6]), ([7], [7]), ([4, 8], [4, 8]), ([9], [9])])
def laws_FnSquaresAreCut.B39 : List Nat := [0, 0, 2, 7, 15, 0, 0, 96, 224, 511, 1023]
theorem laws_FnSquaresAreCut.tab39 : rtab .any (opsOf Try.f13 39) = laws_FnSquaresAreCut.T39 := by kernel_rfl
theorem laws_FnSquaresAreCut.bits39 : waitsOk laws_FnSquaresAreCut.T39.2 laws_FnSquaresAreCut.B39 = true := by kernel_rfl
set_option maxHeartbeats 8000000 in
set_option maxRecDepth 100000 in
theorem laws_FnSquaresAreCut.calls (k : Nat) (A0 : Option Addr) (c0 : Nat) (l0 : List Int) (A1 : Option Addr) (c1 : Nat) (l1 : List Int) (r : Bool) (w : World) (hr0 : Kd.C (Kd.int .u8) w A0 l0.length l0) (hc0 : l0.length ≤ c0) (hr1 : Kd.C (Kd.int .u8) w A1 l1.length l1) (hc1 : l1.length ≤ c1) (h : laws_FnSquaresAreCut.f k l0 l1 = some r) :
    Calls Try.prog 13 #[.slice A0 l0.length c0, .slice A1 l1.length c1] w fun e w' => e = .returned (.bool r) ∧ Below w.heap.size w w' := by
  have HR0 := Aside0.mk hr0
  have HC0 := Aside0.mk hc0
  clear hr0 hc0
  have HR1 := Aside0.mk hr1
  have HC1 := Aside0.mk hc1
  clear hr1 hc1
  have HB := Aside0.mk (Below.refl w.heap.size w)
  have H : ((laws_big.f l0 l1).bind fun t242 => (if t242 = true then (some true) else ((spec_DrawSquareAt.f l0).bind fun bt243 => ((impl_SquareAt.f bt243.1 bt243.2).bind fun bt245 => ((spec_SquareAt.f bt243.1 bt243.2).bind fun bt249 => (if (bt245.2 != bt249.2) = true then (laws_FnSquaresAreCut.j0 k l1 bt243.1 bt243.2 bt245.1 bt245.2 true) else ((laws_uSame.f k bt245.1 bt249.1).bind fun t253 => (laws_FnSquaresAreCut.j0 k l1 bt243.1 bt243.2 bt245.1 bt245.2 (!t253))))))))) = some r := h
  clear h
  replace H := Option.bind_eq_some_iff.mp H
  obtain ⟨t242, A30, H⟩ := H
  replace H : (if t242 = true then (some true) else ((spec_DrawSquareAt.f l0).bind fun bt243 => ((impl_SquareAt.f bt243.1 bt243.2).bind fun bt245 => ((spec_SquareAt.f bt243.1 bt243.2).bind fun bt249 => (if (bt245.2 != bt249.2) = true then (laws_FnSquaresAreCut.j0 k l1 bt243.1 bt243.2 bt245.1 bt245.2 true) else ((laws_uSame.f k bt245.1 bt249.1).bind fun t253 => (laws_FnSquaresAreCut.j0 k l1 bt243.1 bt243.2 bt245.1 bt245.2 (!t253)))))))) = some r := H
  have A3 := Aside0.mk A30
  clear A30
  by_cases c4 : t242 = true
  · subst c4
    have H1 : (some true) = some r := by rw [if_pos rfl] at H; exact H
    clear H
    have H := H1
    clear H1
    obtain rfl := Option.some.inj H
    go_enter Try.func13, Try.ntmps13
    go_wp2_with (first | ((with_reducible refine gate_callee (f := 44) rfl ?_); refine goesL_ (some 38) rfl rfl Try.func44 (by kernel_rfl) rfl #[.slice A0 l0.length c0, .slice A1 l1.length c1] rfl (by (try simp only [List.map_toArray, List.map_cons, List.map_nil]); first | done | rfl | (simp only [List.length_drop, List.length_take]; rfl)) ?_; (with_reducible refine (laws_big.calls _ _ l0 _ _ l1 true _ ?side1 ?side2 ?side3 ?side4 A3.out).mono ?_); (case side1 => repeat (first | exact HR0.out | (with_reducible refine Kd.C_alloc ?_ _) | (with_reducible refine Kd.C_drewN ?_ _) | (with_reducible refine Kd.C_drew ?_))); (case side2 => exact HC0.out); (case side3 => repeat (first | exact HR1.out | (with_reducible refine Kd.C_alloc ?_ _) | (with_reducible refine Kd.C_drewN ?_ _) | (with_reducible refine Kd.C_drew ?_))); (case side4 => exact HC1.out); rintro e w' ⟨rfl, ⟨nd, rfl⟩⟩; refine ⟨_, rfl, ?_⟩))
    go_ret
    exact ⟨by first | rfl | (simp [errW_none, errW_some] <;> rfl) | (simp [*, errW_none, errW_some] <;> rfl), by repeat (first | (with_reducible first | exact HB.out | apply below_alloc | apply pw_below_drewN | apply below_drew1) | exact HB.out)⟩
  · replace c4 := Bool.eq_false_iff.mpr c4
    subst c4
    have H1 : ((spec_DrawSquareAt.f l0).bind fun bt243 => ((impl_SquareAt.f bt243.1 bt243.2).bind fun bt245 => ((spec_SquareAt.f bt243.1 bt243.2).bind fun bt249 => (if (bt245.2 != bt249.2) = true then (laws_FnSquaresAreCut.j0 k l1 bt243.1 bt243.2 bt245.1 bt245.2 true) else ((laws_uSame.f k bt245.1 bt249.1).bind fun t253 => (laws_FnSquaresAreCut.j0 k l1 bt243.1 bt243.2 bt245.1 bt245.2 (!t253))))))) = some r := by rw [if_neg (show ¬ (false = true) by decide)] at H; exact H
    clear H
    have H := H1
    clear H1
    replace H := Option.bind_eq_some_iff.mp H
    obtain ⟨⟨t243, t244⟩, A50, H⟩ := H
    replace H : ((impl_SquareAt.f t243 t244).bind fun bt245 => ((spec_SquareAt.f t243 t244).bind fun bt249 => (if (bt245.2 != bt249.2) = true then (laws_FnSquaresAreCut.j0 k l1 t243 t244 bt245.1 bt245.2 true) else ((laws_uSame.f k bt245.1 bt249.1).bind fun t253 => (laws_FnSquaresAreCut.j0 k l1 t243 t244 bt245.1 bt245.2 (!t253)))))) = some r := H
    have A5 := Aside0.mk A50
    clear A50
    replace H := Option.bind_eq_some_iff.mp H
    obtain ⟨⟨t245, t246⟩, A60, H⟩ := H
    replace H : ((spec_SquareAt.f t243 t244).bind fun bt249 => (if (t246 != bt249.2) = true then (laws_FnSquaresAreCut.j0 k l1 t243 t244 t245 t246 true) else ((laws_uSame.f k t245 bt249.1).bind fun t253 => (laws_FnSquaresAreCut.j0 k l1 t243 t244 t245 t246 (!t253))))) = some r := H
    have A6 := Aside0.mk A60
    clear A60
    replace H := Option.bind_eq_some_iff.mp H
    obtain ⟨⟨t249, t250⟩, A70, H⟩ := H
    replace H : (if (t246 != t250) = true then (laws_FnSquaresAreCut.j0 k l1 t243 t244 t245 t246 true) else ((laws_uSame.f k t245 t249).bind fun t253 => (laws_FnSquaresAreCut.j0 k l1 t243 t244 t245 t246 (!t253)))) = some r := H
    have A7 := Aside0.mk A70
    clear A70
    have HC8 := Aside0.mk H
    clear H
    go_enter Try.func13, Try.ntmps13
    go_upto_region 6 with (first | ((with_reducible refine gate_callee (f := 44) rfl ?_); refine goesL_ (some 38) rfl rfl Try.func44 (by kernel_rfl) rfl #[.slice A0 l0.length c0, .slice A1 l1.length c1] rfl (by (try simp only [List.map_toArray, List.map_cons, List.map_nil]); first | done | rfl | (simp only [List.length_drop, List.length_take]; rfl)) ?_; (with_reducible refine (laws_big.calls _ _ l0 _ _ l1 false _ ?side1 ?side2 ?side3 ?side4 A3.out).mono ?_); (case side1 => repeat (first | exact HR0.out | (with_reducible refine Kd.C_alloc ?_ _) | (with_reducible refine Kd.C_drewN ?_ _) | (with_reducible refine Kd.C_drew ?_))); (case side2 => exact HC0.out); (case side3 => repeat (first | exact HR1.out | (with_reducible refine Kd.C_alloc ?_ _) | (with_reducible refine Kd.C_drewN ?_ _) | (with_reducible refine Kd.C_drew ?_))); (case side4 => exact HC1.out); rintro e w' ⟨rfl, ⟨nd, rfl⟩⟩; refine ⟨_, rfl, ?_⟩) | ((with_reducible refine gate_callee (f := 45) rfl ?_); refine goesL_ (some 41) rfl rfl Try.func45 (by kernel_rfl) rfl #[.slice A0 l0.length c0] rfl (by (try simp only [List.map_toArray, List.map_cons, List.map_nil]); first | done | rfl | (simp only [List.length_drop, List.length_take]; rfl)) ?_; (with_reducible refine (spec_DrawSquareAt.calls _ _ l0 t243 t244 _ ?side1 ?side2 A5.out).mono ?_); (case side1 => repeat (first | exact HR0.out | (with_reducible refine Kd.C_alloc ?_ _) | (with_reducible refine Kd.C_drewN ?_ _) | (with_reducible refine Kd.C_drew ?_))); (case side2 => exact HC0.out); rintro e w9 ⟨rfl, hb⟩; refine ⟨_, rfl, ?_⟩; have n0_ := Aside0.mk (below_step (by repeat (first | (with_reducible first | exact HB.out | apply below_alloc | apply pw_below_drewN | apply below_drew1) | exact HB.out)) hb); clear HB; have HB := n0_; clear n0_; (try clear hb); (try clear hb2); (try clear hk); (try clear hi)) | ((with_reducible refine gate_callee (f := 46) rfl ?_); refine goesL_ (some 47) rfl rfl Try.func46 (by kernel_rfl) rfl #[.int .i64 t243, .int .i64 t244] rfl (by (try simp only [List.map_toArray, List.map_cons, List.map_nil]); first | done | rfl | (simp only [List.length_drop, List.length_take]; rfl)) ?_; (with_reducible refine (impl_SquareAt.calls t243 t244 t245 t246 _ A6.out).mono ?_); rintro e w10 ⟨v247, rfl, ho0, hb⟩; refine ⟨_, rfl, ?_⟩; have n0_ := Aside0.mk (Kd.R_lower ho0 (below_size (by repeat (first | (with_reducible first | exact HB.out | apply below_alloc | apply pw_below_drewN | apply below_drew1) | exact HB.out)))); have n1_ := Aside0.mk (below_step (by repeat (first | (with_reducible first | exact HB.out | apply below_alloc | apply pw_below_drewN | apply below_drew1) | exact HB.out)) hb); clear HB; have HO248 := n0_; have HB := n1_; clear n0_ n1_; (try clear hb); (try clear hb2); (try clear hk); (try clear hi); (try clear ho0)) | ((with_reducible refine gate_callee (f := 47) rfl ?_); refine goesL_ (some 53) rfl rfl Try.func47 (by kernel_rfl) rfl #[.int .i64 t243, .int .i64 t244] rfl (by (try simp only [List.map_toArray, List.map_cons, List.map_nil]); first | done | rfl | (simp only [List.length_drop, List.length_take]; rfl)) ?_; (with_reducible refine (spec_SquareAt.calls t243 t244 t249 t250 _ A7.out).mono ?_); rintro e w11 ⟨v251, rfl, ho0, hb⟩; refine ⟨_, rfl, ?_⟩; have n0_ := Aside0.mk (Kd.R_elder' (by (with_reducible repeat (first | apply Kd.R_alloc | apply Kd.R_drewN | apply Kd.R_drew)); exact HO248.out) (Kd.R_base ho0) hb); have n1_ := Aside0.mk (Kd.R_lower (Kd.R_new' ho0 (Kd.R_lt (by (with_reducible repeat (first | apply Kd.R_alloc | apply Kd.R_drewN | apply Kd.R_drew)); exact HO248.out))) (below_size (by repeat (first | (with_reducible first | exact HB.out | apply below_alloc | apply pw_below_drewN | apply below_drew1) | exact HB.out)))); have n2_ := Aside0.mk (below_step (by repeat (first | (with_reducible first | exact HB.out | apply below_alloc | apply pw_below_drewN | apply below_drew1) | exact HB.out)) hb); clear HO248; clear HB; have HO248 := n0_; have HO252 := n1_; have HB := n2_; clear n0_ n1_ n2_; (try clear hb); (try clear hb2); (try clear hk); (try clear hi); (try clear ho0)))
    (try simp only [Act.put, List.setIfInBounds_toArray, List.set_cons_zero, List.set_cons_succ])
    go_cut [64] (fun v64 wc => ∃ (kq : Nat) (x64_7 : Bool), v64 = .bool x64_7 ∧ Aside0 (laws_FnSquaresAreCut.j0 kq l1 t243 t244 t245 t246 x64_7 = some r) ∧ Aside0 (kq ≤ k) ∧ Aside0 (Kd.R (Kd.int .i64) 3 wc w.heap.size (fun _ => True) v247 t245) ∧ Aside0 (Below w.heap.size w wc))
    case first =>
      have H := HC8.out
      clear HC8
      by_cases c12 : (t246 != t250) = true
      · as_aux_lemma =>
        rw [if_pos c12] at H
        have c12b0 : (t246 != t250) = true := c12
        (try (have c12b1 : decide (t246 = t250) = false := by simpa using c12))
        (try (have c12b2 : (t246 == t250) = false := by simpa using c12))
        (try (have c12b3 : ¬ (t246 = t250) := by simpa using c12))
        clear c12
        (first | rw [c12b0] | (simp only [i64_w, i32_w]; rw [c12b0]) | skip)
        have H' := Aside0.mk H
        clear H
        go_wp2
        go_meet
        case rel => exact ⟨_, (true), (by first | rfl | (simp; done) | (simp [*]; done)), H', ⟨by first | omega | exact Nat.le_refl _⟩, ⟨by (with_reducible repeat (first | apply Kd.R_alloc | apply Kd.R_drewN | apply Kd.R_drew)); exact Kd.R_mono HO248.out (fun _ hk => trivial)⟩, ⟨by repeat (first | (with_reducible first | exact HB.out | apply below_alloc | apply pw_below_drewN | apply below_drew1) | exact HB.out)⟩⟩
      · as_aux_lemma =>
        rw [if_neg c12] at H
        have c12b0 : (t246 != t250) = false := by simpa using c12
        (try (have c12b1 : decide (t246 = t250) = true := by simpa using c12))
        (try (have c12b2 : (t246 == t250) = true := by simpa using c12))
        clear c12
        (first | rw [c12b0] | (simp only [i64_w, i32_w]; rw [c12b0]) | skip)
        replace H := Option.bind_eq_some_iff.mp H
        obtain ⟨t253, A130, H⟩ := H
        replace H : (laws_FnSquaresAreCut.j0 k l1 t243 t244 t245 t246 (!t253)) = some r := H
        have A13 := Aside0.mk A130
        clear A130
        have H' := Aside0.mk H
        clear H
        obtain ⟨Ao14, co14, eo14⟩ := Kd.R_slice HO248.out
        subst eo14
        obtain ⟨Ao15, co15, eo15⟩ := Kd.R_slice HO252.out
        subst eo15
        go_wp2_with (first | (go_at_call 48; (with_reducible refine (laws_uSame.calls k _ _ t245 _ _ t249 t253 _ ?side1 ?side2 ?side3 ?side4 A13.out).mono ?_); (case side1 => repeat (first | exact (Kd.R_reads' HO248.out).2.2 | (with_reducible refine Kd.C_alloc ?_ _) | (with_reducible refine Kd.C_drewN ?_ _) | (with_reducible refine Kd.C_drew ?_))); (case side2 => exact (Kd.R_reads' HO248.out).2.1); (case side3 => repeat (first | exact (Kd.R_reads' HO252.out).2.2 | (with_reducible refine Kd.C_alloc ?_ _) | (with_reducible refine Kd.C_drewN ?_ _) | (with_reducible refine Kd.C_drew ?_))); (case side4 => exact (Kd.R_reads' HO252.out).2.1); rintro e w' ⟨rfl, ⟨nd, rfl⟩⟩))
        go_meet
        case rel => exact ⟨_, (!t253), (by first | rfl | (simp; done) | (simp [*]; done)), H', ⟨by first | omega | exact Nat.le_refl _⟩, ⟨by (with_reducible repeat (first | apply Kd.R_alloc | apply Kd.R_drewN | apply Kd.R_drew)); exact Kd.R_mono HO248.out (fun _ hk => trivial)⟩, ⟨by repeat (first | (with_reducible first | exact HB.out | apply below_alloc | apply pw_below_drewN | apply below_drew1) | exact HB.out)⟩⟩
    case rest =>
      clear HC8
      try clear c1
      try clear p2
      try clear c4
      try clear c12
      try clear c12b0
      try clear c12b1
      try clear c12b2
      try clear c13
      obtain ⟨kq, x64_7, rfl, HA, HJ7, HO_7, HB⟩ := hcut
      cases kq with
      | zero => exact absurd HA.out (by simp [laws_FnSquaresAreCut.j0])
      | succ kj7 =>
        have H := HA.out
        clear HA
        simp only [laws_FnSquaresAreCut.j0] at H
        by_cases c16 : x64_7 = true
        · subst c16
          have H1 : (some false) = some r := by rw [if_pos rfl] at H; exact H
          clear H
          have H := H1
          clear H1
          obtain rfl := Option.some.inj H
          go_wp2
          go_ret
          exact ⟨by first | rfl | (simp [errW_none, errW_some] <;> rfl) | (simp [*, errW_none, errW_some] <;> rfl), by repeat (first | (with_reducible first | exact HB.out | apply below_alloc | apply pw_below_drewN | apply below_drew1) | exact HB.out)⟩
        · replace c16 := Bool.eq_false_iff.mpr c16
          subst c16
          have H1 : (if t246 = true then (if 0 < (t245.length : Int) then (if 1 < (t245.length : Int) then ((impl_SquareIndex.f t243 (rd t245 0) (rd t245 1)).bind fun bt256 => (if bt256.2 = true then (if bt256.1 = t244 then (laws_FnSquaresAreCut.j1 kj7 l1) else (some false)) else (some false))) else (none)) else (none)) else (laws_FnSquaresAreCut.j1 kj7 l1)) = some r := by rw [if_neg (show ¬ (false = true) by decide)] at H; exact H
          clear H
          have H := H1
          clear H1
          have HC17 := Aside0.mk H
          clear H
          go_upto_if 65 with (fail)
          go_cut [] (fun wc => ∃ (kq : Nat), Aside0 (laws_FnSquaresAreCut.j1 kq l1 = some r) ∧ Aside0 (kq ≤ kj7) ∧ Aside0 (Below w.heap.size w wc))
          case first =>
            have H := HC17.out
            clear HC17
            by_cases c18 : t246 = true
            · subst c18
              have H1 : (if 0 < (t245.length : Int) then (if 1 < (t245.length : Int) then ((impl_SquareIndex.f t243 (rd t245 0) (rd t245 1)).bind fun bt256 => (if bt256.2 = true then (if bt256.1 = t244 then (laws_FnSquaresAreCut.j1 kj7 l1) else (some false)) else (some false))) else (none)) else (none)) = some r := by rw [if_pos rfl] at H; exact H
              clear H
              have H := H1
              clear H1
              by_cases c19 : 0 < (t245.length : Int)
              · as_aux_lemma =>
                rw [if_pos c19] at H
                have c19b0 : decide (0 < (t245.length : Int)) = true := decide_eq_true c19
                have c19b1 : decide (0 < t245.length) = true := decide_eq_true (by omega)
                clear c19
                (first | rw [c19b0] | (simp only [i64_w, i32_w]; rw [c19b0]) | skip)
                by_cases c20 : 1 < (t245.length : Int)
                · as_aux_lemma =>
                  rw [if_pos c20] at H
                  have c20b0 : decide (1 < (t245.length : Int)) = true := decide_eq_true c20
                  have c20b1 : decide (1 < t245.length) = true := decide_eq_true (by omega)
                  clear c20
                  replace H := Option.bind_eq_some_iff.mp H
                  obtain ⟨⟨t256, t257⟩, A210, H⟩ := H
                  replace H : (if t257 = true then (if t256 = t244 then (laws_FnSquaresAreCut.j1 kj7 l1) else (some false)) else (some false)) = some r := H
                  have A21 := Aside0.mk A210
                  clear A210
                  by_cases c22 : t257 = true
                  · subst c22
                    have H1 : (if t256 = t244 then (laws_FnSquaresAreCut.j1 kj7 l1) else (some false)) = some r := by rw [if_pos rfl] at H; exact H
                    clear H
                    have H := H1
                    clear H1
                    by_cases c23 : t256 = t244
                    · as_aux_lemma =>
                      rw [if_pos c23] at H
                      have c23b0 : (t256 == t244) = true := beq_iff_eq.mpr c23
                      have c23b1 : (t256 != t244) = false := bne_eq_false_iff_eq.mpr c23
                      clear c23
                      have H' := Aside0.mk H
                      clear H
                      try go_wp2
                      have n0_ := Aside0.mk (Kd.R_drew HO_7.out)
                      have n1_ := Aside0.mk (below_drew1 HB.out)
                      clear HO_7
                      clear HB
                      have HO_7 := n0_
                      have HB := n1_
                      clear n0_ n1_
                      obtain ⟨Ao25, co25, eo25⟩ := Kd.R_slice HO_7.out
                      (first | subst eo25 | (injection eo25 with f1_ f2_ f3_; have f4_ := f1_.symm; have f5_ := f3_.symm; clear f1_ f2_ f3_; subst f4_; subst f5_))
                      have p254 : 0 ≤ (0 : Int) := (by omega)
                      have q254 : 0 < (t245.length : Int) := of_decide_eq_true (by first | (with_reducible assumption) | assumption)
                      obtain ⟨ad254, e254, hx254_0⟩ := Kd.at_int (Kd.R_reads' HO_7.out).2.2 0 p254 q254
                      cases e254
                      have qi254 : (0 < t245.length) = True := eq_true (by omega)
                      (try rw [show ((0 : Int)).toNat = 0 from rfl] at hx254_0)
                      (try rw [Addr.add_zero'] at hx254_0)
                      replace p254 := eq_true p254
                      replace q254 := eq_true q254
                      have p255 : 0 ≤ (1 : Int) := (by omega)
                      have q255 : 1 < (t245.length : Int) := of_decide_eq_true (by first | (with_reducible assumption) | assumption)
                      obtain ⟨ad255, e255, hx255_0⟩ := Kd.at_int (Kd.R_reads' HO_7.out).2.2 1 p255 q255
                      obtain rfl : ad254 = ad255 := (by injection e255)
                      (try simp only [show (1 : Int).toNat = 1 from rfl, Nat.reduceMul, Nat.reduceEqDiff, Go.Addr.add, ↓reduceIte] at hx255_0)
                      have qi255 : (1 < t245.length) = True := eq_true (by omega)
                      (try rw [show ((1 : Int)).toNat = 1 from rfl] at hx255_0)
                      replace p255 := eq_true p255
                      replace q255 := eq_true q255
                      refine start_ (n := 13) (S := fun w' => w'.cell? ad254 = some (.int .i64 (rd t245 0)) ∧ w'.cell? ⟨ad254.block, ad254.off + 1, none⟩ = some (.int .i64 (rd t245 1))) (ds := []) #[false, false, false, false, false, false, false, false, false, false, false, false, false] (by kernel_rfl) rfl rfl ⟨hx254_0, hx255_0⟩ (fun hHeld => ?_); refine with_tabW laws_FnSquaresAreCut.tab9 laws_FnSquaresAreCut.bits9 (fun HT_ HW_ => ?_)
                      generalize wc.drew = w24 at HO_7 HB hx254_0 hx255_0 hHeld ⊢
                      refine pure_ (i := 0) (N := some 67) (v := ?_) (a' := ?_) #[true, false, false, false, false, false, false, false, false, false, false, false, false] rfl rfl (any_of HT_.out (by kernel_rfl)) (fun _ _ _ h => h) (Or.inl ⟨by rfl, ?_⟩) ?_ ?_
                      rotate_left
                      · intro w'
                        go_simp
                        with_reducible rfl
                      rotate_left
                      · simp only [Act.put, List.setIfInBounds_toArray, List.set_cons_zero, List.set_cons_succ, i64_w, i32_w]
                        rfl
                      refine pure_ (i := 1) (N := some 68) (v := ?_) (a' := ?_) #[true, true, false, false, false, false, false, false, false, false, false, false, false] rfl rfl (any_of HT_.out (by kernel_rfl)) (fun _ _ _ h => h) (Or.inl ⟨by rfl, ?_⟩) ?_ ?_
                      rotate_left
                      · intro w'
                        go_simp
                        with_reducible rfl
                      rotate_left
                      · simp only [Act.put, List.setIfInBounds_toArray, List.set_cons_zero, List.set_cons_succ, i64_w, i32_w]
                        rfl
                      refine pure_ (i := 2) (N := some 69) (v := ?_) (a' := ?_) #[true, true, true, false, false, false, false, false, false, false, false, false, false] rfl rfl (any_of HT_.out (by kernel_rfl)) (fun _ _ _ h => h) (Or.inl ⟨by rfl, ?_⟩) ?_ ?_
                      rotate_left
                      · intro w'
                        go_simp
                        with_reducible rfl
                      rotate_left
                      · simp only [Act.put, List.setIfInBounds_toArray, List.set_cons_zero, List.set_cons_succ, i64_w, i32_w]
                        rfl
                      refine pure_ (i := 4) (N := some 71) (v := ?_) (a' := ?_) #[true, true, true, false, true, false, false, false, false, false, false, false, false] rfl rfl (any_of HT_.out (by kernel_rfl)) (fun _ _ _ h => h) (Or.inl ⟨by rfl, ?_⟩) ?_ ?_
                      rotate_left
                      · intro w'
                        go_simp
                        with_reducible rfl
                      rotate_left
                      · simp only [Act.put, List.setIfInBounds_toArray, List.set_cons_zero, List.set_cons_succ, i64_w, i32_w]
                        rfl
                      refine pure_ (i := 5) (N := some 72) (v := ?_) (a' := ?_) #[true, true, true, false, true, true, false, false, false, false, false, false, false] rfl rfl (any_of HT_.out (by kernel_rfl)) (fun _ _ _ h => h) (Or.inl ⟨by rfl, ?_⟩) ?_ ?_
                      rotate_left
                      · intro w'
                        go_simp
                        with_reducible rfl
                      rotate_left
                      · simp only [Act.put, List.setIfInBounds_toArray, List.set_cons_zero, List.set_cons_succ, i64_w, i32_w]
                        rfl
                      refine take_ (i := 3) (N := some 70) (v := ?_) (a' := ?_) #[true, true, true, true, true, true, false, false, false, false, false, false, false] rfl rfl (take_ofW HT_.out HW_.out (by kernel_rfl)) (fun _ _ _ h => h) (Or.inl ⟨by rfl, ?_⟩) hHeld ?_ ?_
                      rotate_left
                      · rintro w' ⟨s0, s1⟩
                        go_simp
                        with_reducible rfl
                      rotate_left
                      · simp only [Act.put, List.setIfInBounds_toArray, List.set_cons_zero, List.set_cons_succ, i64_w, i32_w]
                        rfl
                      refine take_ (i := 6) (N := some 73) (v := ?_) (a' := ?_) #[true, true, true, true, true, true, true, false, false, false, false, false, false] rfl rfl (take_ofW HT_.out HW_.out (by kernel_rfl)) (fun _ _ _ h => h) (Or.inl ⟨by rfl, ?_⟩) hHeld ?_ ?_
                      rotate_left
                      · rintro w' ⟨s0, s1⟩
                        go_simp
                        with_reducible rfl
                      rotate_left
                      · simp only [Act.put, List.setIfInBounds_toArray, List.set_cons_zero, List.set_cons_succ, i64_w, i32_w]
                        rfl
                      refine one_ (i := 7) (N := some 74) #[true, true, true, true, true, true, true, true, false, false, false, false, false] rfl rfl (one_of HT_.out (by kernel_rfl)) (by decide) (fun K hK => ?_)
                      refine goes_ Try.func49 (by kernel_rfl) rfl #[.int .i64 t243, .int .i64 (rd t245 0), .int .i64 (rd t245 1)] (by rfl) rfl rfl (by (try simp only [List.map_toArray, List.map_cons, List.map_nil]); first | done | rfl | (simp only [List.length_drop, List.length_take]; rfl)) ?_
                      with_reducible refine (impl_SquareIndex.calls t243 (rd t245 0) (rd t245 1) t256 true _ A21.out).mono ?_
                      rintro e w26 ⟨rfl, hb⟩
                      have HS0_ := (hb.cell (World.block_lt_of_cell? _ _ (hHeld.1))).trans (hHeld.1)
                      have HS1_ := (hb.cell (World.block_lt_of_cell? _ _ (hHeld.2))).trans (hHeld.2)
                      refine ⟨_, rfl, ?_⟩
                      have n0_ := Aside0.mk (Kd.R_below (by (with_reducible repeat (first | apply Kd.R_alloc | apply Kd.R_drewN | apply Kd.R_drew)); exact HO_7.out) hb)
                      have n1_ := Aside0.mk (below_step (by repeat (first | (with_reducible first | exact HB.out | apply below_alloc | apply pw_below_drewN | apply below_drew1) | exact HB.out)) hb)
                      clear HO_7
                      clear HB
                      have HO_7 := n0_
                      have HB := n1_
                      clear n0_ n1_
                      (try clear hb)
                      (try clear hb2)
                      (try clear hk)
                      (try clear hi)
                      refine hK.out _ _ ⟨HS0_, HS1_⟩ (fun hHeld => ?_)
                      clear hK K
                      refine norm_ (a' := ?_) ?_ ?_
                      rotate_left
                      · show Act.put _ (some 74) _ = _
                        simp only [Act.put, List.setIfInBounds_toArray, List.set_cons_zero, List.set_cons_succ, i64_w, i32_w]
                        rfl
                      refine pure_ (i := 8) (N := some 66) (v := ?_) (a' := ?_) #[true, true, true, true, true, true, true, true, true, false, false, false, false] rfl rfl (any_of HT_.out (by kernel_rfl)) (fun _ _ _ h => h) (Or.inl ⟨by rfl, ?_⟩) ?_ ?_
                      rotate_left
                      · intro w'
                        go_simp
                        with_reducible rfl
                      rotate_left
                      · simp only [Act.put, List.setIfInBounds_toArray, List.set_cons_zero, List.set_cons_succ, i64_w, i32_w]
                        rfl
                      refine pure_ (i := 9) (N := some 75) (v := ?_) (a' := ?_) #[true, true, true, true, true, true, true, true, true, true, false, false, false] rfl rfl (any_of HT_.out (by kernel_rfl)) (fun _ _ _ h => h) (Or.inl ⟨by rfl, ?_⟩) ?_ ?_
                      rotate_left
                      · intro w'
                        go_simp
                        with_reducible rfl
                      rotate_left
                      · simp only [Act.put, List.setIfInBounds_toArray, List.set_cons_zero, List.set_cons_succ, i64_w, i32_w]
                        rfl
                      refine pure_ (i := 10) (N := some 76) (v := ?_) (a' := ?_) #[true, true, true, true, true, true, true, true, true, true, true, false, false] rfl rfl (any_of HT_.out (by kernel_rfl)) (fun _ _ _ h => h) (Or.inl ⟨by rfl, ?_⟩) ?_ ?_
                      rotate_left
                      · intro w'
                        go_simp
                        with_reducible rfl
                      rotate_left
                      · simp only [Act.put, List.setIfInBounds_toArray, List.set_cons_zero, List.set_cons_succ, i64_w, i32_w]
                        rfl
                      refine pure_ (i := 11) (N := some 11) (v := ?_) (a' := ?_) #[true, true, true, true, true, true, true, true, true, true, true, true, false] rfl rfl (any_of HT_.out (by kernel_rfl)) (fun _ _ _ h => h) (Or.inl ⟨by rfl, ?_⟩) ?_ ?_
                      rotate_left
                      · intro w'
                        go_simp
                        with_reducible rfl
                      rotate_left
                      · simp only [Act.put, List.setIfInBounds_toArray, List.set_cons_zero, List.set_cons_succ, i64_w, i32_w]
                        rfl
                      refine pure_ (i := 12) (N := some 12) (v := ?_) (a' := ?_) #[true, true, true, true, true, true, true, true, true, true, true, true, true] rfl rfl (any_of HT_.out (by kernel_rfl)) (fun _ _ _ h => h) (Or.inl ⟨by rfl, ?_⟩) ?_ ?_
                      rotate_left
                      · intro w'
                        go_simp
                        with_reducible rfl
                      rotate_left
                      · simp only [Act.put, List.setIfInBounds_toArray, List.set_cons_zero, List.set_cons_succ, i64_w, i32_w]
                        rfl
                      refine done_ (done_of HT_.out (by kernel_rfl)) ?_
                      try go_wp2
                      go_meet
                      case rel => exact ⟨_, H', ⟨by have := HJ7.out; first | omega | exact Nat.le_refl _⟩, ⟨by repeat (first | (with_reducible first | exact HB.out | apply below_alloc | apply pw_below_drewN | apply below_drew1) | exact HB.out)⟩⟩
                    · as_aux_lemma =>
                      rw [if_neg c23] at H
                      have c23b0 : (t256 == t244) = false := beq_eq_false_iff_ne.mpr c23
                      have c23b1 : (t256 != t244) = true := bne_iff_ne.mpr c23
                      obtain rfl := Option.some.inj H
                      try go_wp2
                      have n0_ := Aside0.mk (Kd.R_drew HO_7.out)
                      have n1_ := Aside0.mk (below_drew1 HB.out)
                      clear HO_7
                      clear HB
                      have HO_7 := n0_
                      have HB := n1_
                      clear n0_ n1_
                      obtain ⟨Ao28, co28, eo28⟩ := Kd.R_slice HO_7.out
                      (first | subst eo28 | (injection eo28 with f1_ f2_ f3_; have f4_ := f1_.symm; have f5_ := f3_.symm; clear f1_ f2_ f3_; subst f4_; subst f5_))
                      have p254 : 0 ≤ (0 : Int) := (by omega)
                      have q254 : 0 < (t245.length : Int) := of_decide_eq_true (by first | (with_reducible assumption) | assumption)
                      obtain ⟨ad254, e254, hx254_0⟩ := Kd.at_int (Kd.R_reads' HO_7.out).2.2 0 p254 q254
                      cases e254
                      have qi254 : (0 < t245.length) = True := eq_true (by omega)
                      (try rw [show ((0 : Int)).toNat = 0 from rfl] at hx254_0)
                      (try rw [Addr.add_zero'] at hx254_0)
                      replace p254 := eq_true p254
                      replace q254 := eq_true q254
                      have p255 : 0 ≤ (1 : Int) := (by omega)
                      have q255 : 1 < (t245.length : Int) := of_decide_eq_true (by first | (with_reducible assumption) | assumption)
                      obtain ⟨ad255, e255, hx255_0⟩ := Kd.at_int (Kd.R_reads' HO_7.out).2.2 1 p255 q255
                      obtain rfl : ad254 = ad255 := (by injection e255)
                      (try simp only [show (1 : Int).toNat = 1 from rfl, Nat.reduceMul, Nat.reduceEqDiff, Go.Addr.add, ↓reduceIte] at hx255_0)
                      have qi255 : (1 < t245.length) = True := eq_true (by omega)
                      (try rw [show ((1 : Int)).toNat = 1 from rfl] at hx255_0)
                      replace p255 := eq_true p255
                      replace q255 := eq_true q255
                      refine start_ (n := 13) (S := fun w' => w'.cell? ad254 = some (.int .i64 (rd t245 0)) ∧ w'.cell? ⟨ad254.block, ad254.off + 1, none⟩ = some (.int .i64 (rd t245 1))) (ds := []) #[false, false, false, false, false, false, false, false, false, false, false, false, false] (by kernel_rfl) rfl rfl ⟨hx254_0, hx255_0⟩ (fun hHeld => ?_); refine with_tabW laws_FnSquaresAreCut.tab9 laws_FnSquaresAreCut.bits9 (fun HT_ HW_ => ?_)
                      generalize wc.drew = w27 at HO_7 HB hx254_0 hx255_0 hHeld ⊢
                      refine pure_ (i := 0) (N := some 67) (v := ?_) (a' := ?_) #[true, false, false, false, false, false, false, false, false, false, false, false, false] rfl rfl (any_of HT_.out (by kernel_rfl)) (fun _ _ _ h => h) (Or.inl ⟨by rfl, ?_⟩) ?_ ?_
                      rotate_left
                      · intro w'
                        go_simp
                        with_reducible rfl
                      rotate_left
                      · simp only [Act.put, List.setIfInBounds_toArray, List.set_cons_zero, List.set_cons_succ, i64_w, i32_w]
                        rfl
                      refine pure_ (i := 1) (N := some 68) (v := ?_) (a' := ?_) #[true, true, false, false, false, false, false, false, false, false, false, false, false] rfl rfl (any_of HT_.out (by kernel_rfl)) (fun _ _ _ h => h) (Or.inl ⟨by rfl, ?_⟩) ?_ ?_
                      rotate_left
                      · intro w'
                        go_simp
                        with_reducible rfl
                      rotate_left
                      · simp only [Act.put, List.setIfInBounds_toArray, List.set_cons_zero, List.set_cons_succ, i64_w, i32_w]
                        rfl
                      refine pure_ (i := 2) (N := some 69) (v := ?_) (a' := ?_) #[true, true, true, false, false, false, false, false, false, false, false, false, false] rfl rfl (any_of HT_.out (by kernel_rfl)) (fun _ _ _ h => h) (Or.inl ⟨by rfl, ?_⟩) ?_ ?_
                      rotate_left
                      · intro w'
                        go_simp
                        with_reducible rfl
                      rotate_left
                      · simp only [Act.put, List.setIfInBounds_toArray, List.set_cons_zero, List.set_cons_succ, i64_w, i32_w]
                        rfl
                      refine pure_ (i := 4) (N := some 71) (v := ?_) (a' := ?_) #[true, true, true, false, true, false, false, false, false, false, false, false, false] rfl rfl (any_of HT_.out (by kernel_rfl)) (fun _ _ _ h => h) (Or.inl ⟨by rfl, ?_⟩) ?_ ?_
                      rotate_left
                      · intro w'
                        go_simp
                        with_reducible rfl
                      rotate_left
                      · simp only [Act.put, List.setIfInBounds_toArray, List.set_cons_zero, List.set_cons_succ, i64_w, i32_w]
                        rfl
                      refine pure_ (i := 5) (N := some 72) (v := ?_) (a' := ?_) #[true, true, true, false, true, true, false, false, false, false, false, false, false] rfl rfl (any_of HT_.out (by kernel_rfl)) (fun _ _ _ h => h) (Or.inl ⟨by rfl, ?_⟩) ?_ ?_
                      rotate_left
                      · intro w'
                        go_simp
                        with_reducible rfl
                      rotate_left
                      · simp only [Act.put, List.setIfInBounds_toArray, List.set_cons_zero, List.set_cons_succ, i64_w, i32_w]
                        rfl
                      refine take_ (i := 3) (N := some 70) (v := ?_) (a' := ?_) #[true, true, true, true, true, true, false, false, false, false, false, false, false] rfl rfl (take_ofW HT_.out HW_.out (by kernel_rfl)) (fun _ _ _ h => h) (Or.inl ⟨by rfl, ?_⟩) hHeld ?_ ?_
                      rotate_left
                      · rintro w' ⟨s0, s1⟩
                        go_simp
                        with_reducible rfl
                      rotate_left
                      · simp only [Act.put, List.setIfInBounds_toArray, List.set_cons_zero, List.set_cons_succ, i64_w, i32_w]
                        rfl
                      refine take_ (i := 6) (N := some 73) (v := ?_) (a' := ?_) #[true, true, true, true, true, true, true, false, false, false, false, false, false] rfl rfl (take_ofW HT_.out HW_.out (by kernel_rfl)) (fun _ _ _ h => h) (Or.inl ⟨by rfl, ?_⟩) hHeld ?_ ?_
                      rotate_left
                      · rintro w' ⟨s0, s1⟩
                        go_simp
                        with_reducible rfl
                      rotate_left
                      · simp only [Act.put, List.setIfInBounds_toArray, List.set_cons_zero, List.set_cons_succ, i64_w, i32_w]
                        rfl
                      refine one_ (i := 7) (N := some 74) #[true, true, true, true, true, true, true, true, false, false, false, false, false] rfl rfl (one_of HT_.out (by kernel_rfl)) (by decide) (fun K hK => ?_)
                      refine goes_ Try.func49 (by kernel_rfl) rfl #[.int .i64 t243, .int .i64 (rd t245 0), .int .i64 (rd t245 1)] (by rfl) rfl rfl (by (try simp only [List.map_toArray, List.map_cons, List.map_nil]); first | done | rfl | (simp only [List.length_drop, List.length_take]; rfl)) ?_
                      with_reducible refine (impl_SquareIndex.calls t243 (rd t245 0) (rd t245 1) t256 true _ A21.out).mono ?_
                      rintro e w29 ⟨rfl, hb⟩
                      have HS0_ := (hb.cell (World.block_lt_of_cell? _ _ (hHeld.1))).trans (hHeld.1)
                      have HS1_ := (hb.cell (World.block_lt_of_cell? _ _ (hHeld.2))).trans (hHeld.2)
                      refine ⟨_, rfl, ?_⟩
                      have n0_ := Aside0.mk (Kd.R_below (by (with_reducible repeat (first | apply Kd.R_alloc | apply Kd.R_drewN | apply Kd.R_drew)); exact HO_7.out) hb)
                      have n1_ := Aside0.mk (below_step (by repeat (first | (with_reducible first | exact HB.out | apply below_alloc | apply pw_below_drewN | apply below_drew1) | exact HB.out)) hb)
                      clear HO_7
                      clear HB
                      have HO_7 := n0_
                      have HB := n1_
                      clear n0_ n1_
                      (try clear hb)
                      (try clear hb2)
                      (try clear hk)
                      (try clear hi)
                      refine hK.out _ _ ⟨HS0_, HS1_⟩ (fun hHeld => ?_)
                      clear hK K
                      refine norm_ (a' := ?_) ?_ ?_
                      rotate_left
                      · show Act.put _ (some 74) _ = _
                        simp only [Act.put, List.setIfInBounds_toArray, List.set_cons_zero, List.set_cons_succ, i64_w, i32_w]
                        rfl
                      refine pure_ (i := 8) (N := some 66) (v := ?_) (a' := ?_) #[true, true, true, true, true, true, true, true, true, false, false, false, false] rfl rfl (any_of HT_.out (by kernel_rfl)) (fun _ _ _ h => h) (Or.inl ⟨by rfl, ?_⟩) ?_ ?_
                      rotate_left
                      · intro w'
                        go_simp
                        with_reducible rfl
                      rotate_left
                      · simp only [Act.put, List.setIfInBounds_toArray, List.set_cons_zero, List.set_cons_succ, i64_w, i32_w]
                        rfl
                      refine pure_ (i := 9) (N := some 75) (v := ?_) (a' := ?_) #[true, true, true, true, true, true, true, true, true, true, false, false, false] rfl rfl (any_of HT_.out (by kernel_rfl)) (fun _ _ _ h => h) (Or.inl ⟨by rfl, ?_⟩) ?_ ?_
                      rotate_left
                      · intro w'
                        go_simp
                        with_reducible rfl
                      rotate_left
                      · simp only [Act.put, List.setIfInBounds_toArray, List.set_cons_zero, List.set_cons_succ, i64_w, i32_w]
                        rfl
                      refine pure_ (i := 10) (N := some 76) (v := ?_) (a' := ?_) #[true, true, true, true, true, true, true, true, true, true, true, false, false] rfl rfl (any_of HT_.out (by kernel_rfl)) (fun _ _ _ h => h) (Or.inl ⟨by rfl, ?_⟩) ?_ ?_
                      rotate_left
                      · intro w'
                        go_simp
                        with_reducible rfl
                      rotate_left
                      · simp only [Act.put, List.setIfInBounds_toArray, List.set_cons_zero, List.set_cons_succ, i64_w, i32_w]
                        rfl
                      refine pure_ (i := 11) (N := some 11) (v := ?_) (a' := ?_) #[true, true, true, true, true, true, true, true, true, true, true, true, false] rfl rfl (any_of HT_.out (by kernel_rfl)) (fun _ _ _ h => h) (Or.inl ⟨by rfl, ?_⟩) ?_ ?_
                      rotate_left
                      · intro w'
                        go_simp
                        with_reducible rfl
                      rotate_left
                      · simp only [Act.put, List.setIfInBounds_toArray, List.set_cons_zero, List.set_cons_succ, i64_w, i32_w]
                        rfl
                      refine pure_ (i := 12) (N := some 12) (v := ?_) (a' := ?_) #[true, true, true, true, true, true, true, true, true, true, true, true, true] rfl rfl (any_of HT_.out (by kernel_rfl)) (fun _ _ _ h => h) (Or.inl ⟨by rfl, ?_⟩) ?_ ?_
                      rotate_left
                      · intro w'
                        go_simp
                        with_reducible rfl
                      rotate_left
                      · simp only [Act.put, List.setIfInBounds_toArray, List.set_cons_zero, List.set_cons_succ, i64_w, i32_w]
                        rfl
                      refine done_ (done_of HT_.out (by kernel_rfl)) ?_
                      try go_wp2
                      go_ret
                      exact ⟨by first | rfl | (simp [errW_none, errW_some] <;> rfl) | (simp [*, errW_none, errW_some] <;> rfl), by repeat (first | (with_reducible first | exact HB.out | apply below_alloc | apply pw_below_drewN | apply below_drew1) | exact HB.out)⟩
                  · replace c22 := Bool.eq_false_iff.mpr c22
                    subst c22
                    have H1 : (some false) = some r := by rw [if_neg (show ¬ (false = true) by decide)] at H; exact H
                    clear H
                    have H := H1
                    clear H1
                    obtain rfl := Option.some.inj H
                    try go_wp2
                    have n0_ := Aside0.mk (Kd.R_drew HO_7.out)
                    have n1_ := Aside0.mk (below_drew1 HB.out)
                    clear HO_7
                    clear HB
                    have HO_7 := n0_
                    have HB := n1_
                    clear n0_ n1_
                    obtain ⟨Ao31, co31, eo31⟩ := Kd.R_slice HO_7.out
                    (first | subst eo31 | (injection eo31 with f1_ f2_ f3_; have f4_ := f1_.symm; have f5_ := f3_.symm; clear f1_ f2_ f3_; subst f4_; subst f5_))
                    have p254 : 0 ≤ (0 : Int) := (by omega)
                    have q254 : 0 < (t245.length : Int) := of_decide_eq_true (by first | (with_reducible assumption) | assumption)
                    obtain ⟨ad254, e254, hx254_0⟩ := Kd.at_int (Kd.R_reads' HO_7.out).2.2 0 p254 q254
                    cases e254
                    have qi254 : (0 < t245.length) = True := eq_true (by omega)
                    (try rw [show ((0 : Int)).toNat = 0 from rfl] at hx254_0)
                    (try rw [Addr.add_zero'] at hx254_0)
                    replace p254 := eq_true p254
                    replace q254 := eq_true q254
                    have p255 : 0 ≤ (1 : Int) := (by omega)
                    have q255 : 1 < (t245.length : Int) := of_decide_eq_true (by first | (with_reducible assumption) | assumption)
                    obtain ⟨ad255, e255, hx255_0⟩ := Kd.at_int (Kd.R_reads' HO_7.out).2.2 1 p255 q255
                    obtain rfl : ad254 = ad255 := (by injection e255)
                    (try simp only [show (1 : Int).toNat = 1 from rfl, Nat.reduceMul, Nat.reduceEqDiff, Go.Addr.add, ↓reduceIte] at hx255_0)
                    have qi255 : (1 < t245.length) = True := eq_true (by omega)
                    (try rw [show ((1 : Int)).toNat = 1 from rfl] at hx255_0)
                    replace p255 := eq_true p255
                    replace q255 := eq_true q255
                    refine start_ (n := 13) (S := fun w' => w'.cell? ad254 = some (.int .i64 (rd t245 0)) ∧ w'.cell? ⟨ad254.block, ad254.off + 1, none⟩ = some (.int .i64 (rd t245 1))) (ds := []) #[false, false, false, false, false, false, false, false, false, false, false, false, false] (by kernel_rfl) rfl rfl ⟨hx254_0, hx255_0⟩ (fun hHeld => ?_); refine with_tabW laws_FnSquaresAreCut.tab9 laws_FnSquaresAreCut.bits9 (fun HT_ HW_ => ?_)
                    generalize wc.drew = w30 at HO_7 HB hx254_0 hx255_0 hHeld ⊢
                    refine pure_ (i := 0) (N := some 67) (v := ?_) (a' := ?_) #[true, false, false, false, false, false, false, false, false, false, false, false, false] rfl rfl (any_of HT_.out (by kernel_rfl)) (fun _ _ _ h => h) (Or.inl ⟨by rfl, ?_⟩) ?_ ?_
                    rotate_left
                    · intro w'
                      go_simp
                      with_reducible rfl
                    rotate_left
                    · simp only [Act.put, List.setIfInBounds_toArray, List.set_cons_zero, List.set_cons_succ, i64_w, i32_w]
                      rfl
                    refine pure_ (i := 1) (N := some 68) (v := ?_) (a' := ?_) #[true, true, false, false, false, false, false, false, false, false, false, false, false] rfl rfl (any_of HT_.out (by kernel_rfl)) (fun _ _ _ h => h) (Or.inl ⟨by rfl, ?_⟩) ?_ ?_
                    rotate_left
                    · intro w'
                      go_simp
                      with_reducible rfl
                    rotate_left
                    · simp only [Act.put, List.setIfInBounds_toArray, List.set_cons_zero, List.set_cons_succ, i64_w, i32_w]
                      rfl
                    refine pure_ (i := 2) (N := some 69) (v := ?_) (a' := ?_) #[true, true, true, false, false, false, false, false, false, false, false, false, false] rfl rfl (any_of HT_.out (by kernel_rfl)) (fun _ _ _ h => h) (Or.inl ⟨by rfl, ?_⟩) ?_ ?_
                    rotate_left
                    · intro w'
                      go_simp
                      with_reducible rfl
                    rotate_left
                    · simp only [Act.put, List.setIfInBounds_toArray, List.set_cons_zero, List.set_cons_succ, i64_w, i32_w]
                      rfl
                    refine pure_ (i := 4) (N := some 71) (v := ?_) (a' := ?_) #[true, true, true, false, true, false, false, false, false, false, false, false, false] rfl rfl (any_of HT_.out (by kernel_rfl)) (fun _ _ _ h => h) (Or.inl ⟨by rfl, ?_⟩) ?_ ?_
                    rotate_left
                    · intro w'
                      go_simp
                      with_reducible rfl
                    rotate_left
                    · simp only [Act.put, List.setIfInBounds_toArray, List.set_cons_zero, List.set_cons_succ, i64_w, i32_w]
                      rfl
                    refine pure_ (i := 5) (N := some 72) (v := ?_) (a' := ?_) #[true, true, true, false, true, true, false, false, false, false, false, false, false] rfl rfl (any_of HT_.out (by kernel_rfl)) (fun _ _ _ h => h) (Or.inl ⟨by rfl, ?_⟩) ?_ ?_
                    rotate_left
                    · intro w'
                      go_simp
                      with_reducible rfl
                    rotate_left
                    · simp only [Act.put, List.setIfInBounds_toArray, List.set_cons_zero, List.set_cons_succ, i64_w, i32_w]
                      rfl
                    refine take_ (i := 3) (N := some 70) (v := ?_) (a' := ?_) #[true, true, true, true, true, true, false, false, false, false, false, false, false] rfl rfl (take_ofW HT_.out HW_.out (by kernel_rfl)) (fun _ _ _ h => h) (Or.inl ⟨by rfl, ?_⟩) hHeld ?_ ?_
                    rotate_left
                    · rintro w' ⟨s0, s1⟩
                      go_simp
                      with_reducible rfl
                    rotate_left
                    · simp only [Act.put, List.setIfInBounds_toArray, List.set_cons_zero, List.set_cons_succ, i64_w, i32_w]
                      rfl
                    refine take_ (i := 6) (N := some 73) (v := ?_) (a' := ?_) #[true, true, true, true, true, true, true, false, false, false, false, false, false] rfl rfl (take_ofW HT_.out HW_.out (by kernel_rfl)) (fun _ _ _ h => h) (Or.inl ⟨by rfl, ?_⟩) hHeld ?_ ?_
                    rotate_left
                    · rintro w' ⟨s0, s1⟩
                      go_simp
                      with_reducible rfl
                    rotate_left
                    · simp only [Act.put, List.setIfInBounds_toArray, List.set_cons_zero, List.set_cons_succ, i64_w, i32_w]
                      rfl
                    refine one_ (i := 7) (N := some 74) #[true, true, true, true, true, true, true, true, false, false, false, false, false] rfl rfl (one_of HT_.out (by kernel_rfl)) (by decide) (fun K hK => ?_)
                    refine goes_ Try.func49 (by kernel_rfl) rfl #[.int .i64 t243, .int .i64 (rd t245 0), .int .i64 (rd t245 1)] (by rfl) rfl rfl (by (try simp only [List.map_toArray, List.map_cons, List.map_nil]); first | done | rfl | (simp only [List.length_drop, List.length_take]; rfl)) ?_
                    with_reducible refine (impl_SquareIndex.calls t243 (rd t245 0) (rd t245 1) t256 false _ A21.out).mono ?_
                    rintro e w32 ⟨rfl, hb⟩
                    have HS0_ := (hb.cell (World.block_lt_of_cell? _ _ (hHeld.1))).trans (hHeld.1)
                    have HS1_ := (hb.cell (World.block_lt_of_cell? _ _ (hHeld.2))).trans (hHeld.2)
                    refine ⟨_, rfl, ?_⟩
                    have n0_ := Aside0.mk (Kd.R_below (by (with_reducible repeat (first | apply Kd.R_alloc | apply Kd.R_drewN | apply Kd.R_drew)); exact HO_7.out) hb)
                    have n1_ := Aside0.mk (below_step (by repeat (first | (with_reducible first | exact HB.out | apply below_alloc | apply pw_below_drewN | apply below_drew1) | exact HB.out)) hb)
                    clear HO_7
                    clear HB
                    have HO_7 := n0_
                    have HB := n1_
                    clear n0_ n1_
                    (try clear hb)
                    (try clear hb2)
                    (try clear hk)
                    (try clear hi)
                    refine hK.out _ _ ⟨HS0_, HS1_⟩ (fun hHeld => ?_)
                    clear hK K
                    refine norm_ (a' := ?_) ?_ ?_
                    rotate_left
                    · show Act.put _ (some 74) _ = _
                      simp only [Act.put, List.setIfInBounds_toArray, List.set_cons_zero, List.set_cons_succ, i64_w, i32_w]
                      rfl
                    refine pure_ (i := 8) (N := some 66) (v := ?_) (a' := ?_) #[true, true, true, true, true, true, true, true, true, false, false, false, false] rfl rfl (any_of HT_.out (by kernel_rfl)) (fun _ _ _ h => h) (Or.inl ⟨by rfl, ?_⟩) ?_ ?_
                    rotate_left
                    · intro w'
                      go_simp
                      with_reducible rfl
                    rotate_left
                    · simp only [Act.put, List.setIfInBounds_toArray, List.set_cons_zero, List.set_cons_succ, i64_w, i32_w]
                      rfl
                    refine pure_ (i := 9) (N := some 75) (v := ?_) (a' := ?_) #[true, true, true, true, true, true, true, true, true, true, false, false, false] rfl rfl (any_of HT_.out (by kernel_rfl)) (fun _ _ _ h => h) (Or.inl ⟨by rfl, ?_⟩) ?_ ?_
                    rotate_left
                    · intro w'
                      go_simp
                      with_reducible rfl
                    rotate_left
                    · simp only [Act.put, List.setIfInBounds_toArray, List.set_cons_zero, List.set_cons_succ, i64_w, i32_w]
                      rfl
                    refine pure_ (i := 10) (N := some 76) (v := ?_) (a' := ?_) #[true, true, true, true, true, true, true, true, true, true, true, false, false] rfl rfl (any_of HT_.out (by kernel_rfl)) (fun _ _ _ h => h) (Or.inl ⟨by rfl, ?_⟩) ?_ ?_
                    rotate_left
                    · intro w'
                      go_simp
                      with_reducible rfl
                    rotate_left
                    · simp only [Act.put, List.setIfInBounds_toArray, List.set_cons_zero, List.set_cons_succ, i64_w, i32_w]
                      rfl
                    refine pure_ (i := 11) (N := some 11) (v := ?_) (a' := ?_) #[true, true, true, true, true, true, true, true, true, true, true, true, false] rfl rfl (any_of HT_.out (by kernel_rfl)) (fun _ _ _ h => h) (Or.inl ⟨by rfl, ?_⟩) ?_ ?_
                    rotate_left
                    · intro w'
                      go_simp
                      with_reducible rfl
                    rotate_left
                    · simp only [Act.put, List.setIfInBounds_toArray, List.set_cons_zero, List.set_cons_succ, i64_w, i32_w]
                      rfl
                    refine pure_ (i := 12) (N := some 12) (v := ?_) (a' := ?_) #[true, true, true, true, true, true, true, true, true, true, true, true, true] rfl rfl (any_of HT_.out (by kernel_rfl)) (fun _ _ _ h => h) (Or.inl ⟨by rfl, ?_⟩) ?_ ?_
                    rotate_left
                    · intro w'
                      go_simp
                      with_reducible rfl
                    rotate_left
                    · simp only [Act.put, List.setIfInBounds_toArray, List.set_cons_zero, List.set_cons_succ, i64_w, i32_w]
                      rfl
                    refine done_ (done_of HT_.out (by kernel_rfl)) ?_
                    try go_wp2
                    go_ret
                    exact ⟨by first | rfl | (simp [errW_none, errW_some] <;> rfl) | (simp [*, errW_none, errW_some] <;> rfl), by repeat (first | (with_reducible first | exact HB.out | apply below_alloc | apply pw_below_drewN | apply below_drew1) | exact HB.out)⟩
                · as_aux_lemma =>
                  rw [if_neg c20] at H
                  exact absurd H (by simp)
              · as_aux_lemma =>
                rw [if_neg c19] at H
                exact absurd H (by simp)
            · replace c18 := Bool.eq_false_iff.mpr c18
              subst c18
              have H1 : (laws_FnSquaresAreCut.j1 kj7 l1) = some r := by rw [if_neg (show ¬ (false = true) by decide)] at H; exact H
              clear H
              have H := H1
              clear H1
              have H' := Aside0.mk H
              clear H
              go_wp2
              go_meet
              case rel => exact ⟨_, H', ⟨by have := HJ7.out; first | omega | exact Nat.le_refl _⟩, ⟨by repeat (first | (with_reducible first | exact HB.out | apply below_alloc | apply pw_below_drewN | apply below_drew1) | exact HB.out)⟩⟩
          case rest =>
            clear HC17
            try clear c1
            try clear c2
            try clear p2
            try clear q2
            try clear hx2
            try clear qi2
            try clear c4
            try clear c12
            try clear c12b0
            try clear c12b1
            try clear c12b2
            try clear c13
            try clear c16
            try clear c18
            try clear c19
            try clear c19b0
            try clear c19b1
            try clear c20
            try clear c20b0
            try clear c20b1
            try clear c22
            try clear c23
            try clear c23b0
            try clear c23b1
            try clear p25
            try clear q25
            try clear hx25
            try clear qi25
            try clear hx254_0
            try clear hx255_0
            try clear p2
            try clear p254
            try clear p255
            try clear q254
            try clear q255
            obtain ⟨kq, HA, HJ16, HB⟩ := hcut
            cases kq with
            | zero => exact absurd HA.out (by simp [laws_FnSquaresAreCut.j1])
            | succ kj16 =>
              have H := HA.out
              clear HA
              simp only [laws_FnSquaresAreCut.j1] at H
              replace H := Option.bind_eq_some_iff.mp H
              obtain ⟨⟨t258, t259, t260⟩, A330, H⟩ := H
              replace H : ((impl_SquareIndex.f t258 t259 t260).bind fun bt261 => ((spec_SquareIndex.f t258 t259 t260).bind fun bt263 => (if (bt261.2 != bt263.2) = true then (laws_FnSquaresAreCut.j2 kj16 l1 true) else (laws_FnSquaresAreCut.j2 kj16 l1 (bt261.1 != bt263.1))))) = some r := H
              have A33 := Aside0.mk A330
              clear A330
              replace H := Option.bind_eq_some_iff.mp H
              obtain ⟨⟨t261, t262⟩, A340, H⟩ := H
              replace H : ((spec_SquareIndex.f t258 t259 t260).bind fun bt263 => (if (t262 != bt263.2) = true then (laws_FnSquaresAreCut.j2 kj16 l1 true) else (laws_FnSquaresAreCut.j2 kj16 l1 (t261 != bt263.1)))) = some r := H
              have A34 := Aside0.mk A340
              clear A340
              replace H := Option.bind_eq_some_iff.mp H
              obtain ⟨⟨t263, t264⟩, A350, H⟩ := H
              replace H : (if (t262 != t264) = true then (laws_FnSquaresAreCut.j2 kj16 l1 true) else (laws_FnSquaresAreCut.j2 kj16 l1 (t261 != t263))) = some r := H
              have A35 := Aside0.mk A350
              clear A350
              have HC36 := Aside0.mk H
              clear H
              go_upto_region 15 with (first | ((with_reducible refine gate_callee (f := 50) rfl ?_); refine goesL_ (some 86) rfl rfl Try.func50 (by kernel_rfl) rfl #[.slice A1 l1.length c1] rfl (by (try simp only [List.map_toArray, List.map_cons, List.map_nil]); first | done | rfl | (simp only [List.length_drop, List.length_take]; rfl)) ?_; (with_reducible refine (spec_DrawSquareIndex.calls _ _ l1 t258 t259 t260 _ ?side1 ?side2 A33.out).mono ?_); (case side1 => repeat (first | exact (Kd.C_below HR1.out HB.out) | (with_reducible refine Kd.C_alloc ?_ _) | (with_reducible refine Kd.C_drewN ?_ _) | (with_reducible refine Kd.C_drew ?_))); (case side2 => exact HC1.out); rintro e w37 ⟨rfl, hb⟩; refine ⟨_, rfl, ?_⟩; have n0_ := Aside0.mk (below_step (by repeat (first | (with_reducible first | exact HB.out | apply below_alloc | apply pw_below_drewN | apply below_drew1) | exact HB.out)) hb); clear HB; have HB := n0_; clear n0_; (try clear hb); (try clear hb2); (try clear hk); (try clear hi)) | ((with_reducible refine gate_callee (f := 49) rfl ?_); refine goesL_ (some 94) rfl rfl Try.func49 (by kernel_rfl) rfl #[.int .i64 t258, .int .i64 t259, .int .i64 t260] rfl (by (try simp only [List.map_toArray, List.map_cons, List.map_nil]); first | done | rfl | (simp only [List.length_drop, List.length_take]; rfl)) ?_; (with_reducible refine (impl_SquareIndex.calls t258 t259 t260 t261 t262 _ A34.out).mono ?_); rintro e w38 ⟨rfl, hb⟩; refine ⟨_, rfl, ?_⟩; have n0_ := Aside0.mk (below_step (by repeat (first | (with_reducible first | exact HB.out | apply below_alloc | apply pw_below_drewN | apply below_drew1) | exact HB.out)) hb); clear HB; have HB := n0_; clear n0_; (try clear hb); (try clear hb2); (try clear hk); (try clear hi)) | ((with_reducible refine gate_callee (f := 51) rfl ?_); refine goesL_ (some 101) rfl rfl Try.func51 (by kernel_rfl) rfl #[.int .i64 t258, .int .i64 t259, .int .i64 t260] rfl (by (try simp only [List.map_toArray, List.map_cons, List.map_nil]); first | done | rfl | (simp only [List.length_drop, List.length_take]; rfl)) ?_; (with_reducible refine (spec_SquareIndex.calls t258 t259 t260 t263 t264 _ A35.out).mono ?_); rintro e w' ⟨rfl, ⟨nd, rfl⟩⟩; refine ⟨_, rfl, ?_⟩))
              (try simp only [Act.put, List.setIfInBounds_toArray, List.set_cons_zero, List.set_cons_succ])
              go_cut [111] (fun v111 wc => ∃ (kq : Nat) (x111_35 : Bool), v111 = .bool x111_35 ∧ Aside0 (laws_FnSquaresAreCut.j2 kq l1 x111_35 = some r) ∧ Aside0 (kq ≤ kj16) ∧ Aside0 (Below w.heap.size w wc))
              case first =>
                have H := HC36.out
                clear HC36
                by_cases c39 : (t262 != t264) = true
                · as_aux_lemma =>
                  rw [if_pos c39] at H
                  have c39b0 : (t262 != t264) = true := c39
                  (try (have c39b1 : decide (t262 = t264) = false := by simpa using c39))
                  (try (have c39b2 : (t262 == t264) = false := by simpa using c39))
                  (try (have c39b3 : ¬ (t262 = t264) := by simpa using c39))
                  clear c39
                  (first | rw [c39b0] | (simp only [i64_w, i32_w]; rw [c39b0]) | skip)
                  have H' := Aside0.mk H
                  clear H
                  go_wp2
                  go_meet
                  case rel => exact ⟨_, (true), (by first | rfl | (simp; done) | (simp [*]; done)), H', ⟨by have := HJ7.out; have := HJ16.out; first | omega | exact Nat.le_refl _⟩, ⟨by repeat (first | (with_reducible first | exact HB.out | apply below_alloc | apply pw_below_drewN | apply below_drew1) | exact HB.out)⟩⟩
                · as_aux_lemma =>
                  rw [if_neg c39] at H
                  have c39b0 : (t262 != t264) = false := by simpa using c39
                  (try (have c39b1 : decide (t262 = t264) = true := by simpa using c39))
                  (try (have c39b2 : (t262 == t264) = true := by simpa using c39))
                  clear c39
                  (first | rw [c39b0] | (simp only [i64_w, i32_w]; rw [c39b0]) | skip)
                  have H' := Aside0.mk H
                  clear H
                  go_wp2
                  go_meet
                  case rel => exact ⟨_, ((t261 != t263)), (by first | rfl | (simp; done) | (simp [*]; done)), H', ⟨by have := HJ7.out; have := HJ16.out; first | omega | exact Nat.le_refl _⟩, ⟨by repeat (first | (with_reducible first | exact HB.out | apply below_alloc | apply pw_below_drewN | apply below_drew1) | exact HB.out)⟩⟩
              case rest =>
                clear HC36
                try clear c1
                try clear c2
                try clear p2
                try clear q2
                try clear hx2
                try clear qi2
                try clear c3
                try clear c4
                try clear c5
                try clear c12
                try clear c12b0
                try clear c12b1
                try clear c12b2
                try clear c13
                try clear c16
                try clear c18
                try clear c19
                try clear c19b0
                try clear c19b1
                try clear c20
                try clear c20b0
                try clear c20b1
                try clear c22
                try clear c23
                try clear c23b0
                try clear c23b1
                try clear p25
                try clear q25
                try clear hx25
                try clear qi25
                try clear c39
                try clear c39b0
                try clear c39b1
                try clear c39b2
                try clear hx254_0
                try clear hx255_0
                try clear p2
                try clear p25
                try clear p254
                try clear p255
                try clear q2
                try clear q25
                try clear q254
                try clear q255
                obtain ⟨kq, x111_35, rfl, HA, HJ35, HB⟩ := hcut
                cases kq with
                | zero => exact absurd HA.out (by simp [laws_FnSquaresAreCut.j2])
                | succ kj35 =>
                  have H := HA.out
                  clear HA
                  simp only [laws_FnSquaresAreCut.j2] at H
                  by_cases c40 : x111_35 = true
                  · subst c40
                    have H1 : (some false) = some r := by rw [if_pos rfl] at H; exact H
                    clear H
                    have H := H1
                    clear H1
                    obtain rfl := Option.some.inj H
                    go_wp2
                    go_ret
                    exact ⟨by first | rfl | (simp [errW_none, errW_some] <;> rfl) | (simp [*, errW_none, errW_some] <;> rfl), by repeat (first | (with_reducible first | exact HB.out | apply below_alloc | apply pw_below_drewN | apply below_drew1) | exact HB.out)⟩
                  · replace c40 := Bool.eq_false_iff.mpr c40
                    subst c40
                    have H1 : ((spec_DrawSquareBorder.f l1).bind fun t265 => ((impl_SquareBorder.f kj35 t265).bind fun bt266 => ((spec_SquareBorder.f kj35 t265).bind fun bt270 => ((impl_SquareCells.f kj35 t265).bind fun bt274 => ((spec_SquareCells.f kj35 t265).bind fun bt278 => ((impl_CountSquare.f t265).bind fun bt282 => ((spec_CountSquare.f t265).bind fun bt284 => (if (bt266.2 != bt270.2) = true then (laws_FnSquaresAreCut.j3 kj35 t265 bt266.1 bt266.2 bt274.1 bt282.1 true) else ((laws_uSame.f kj35 bt266.1 bt270.1).bind fun t286 => (if t286 = true then (if (bt274.2 != bt278.2) = true then (laws_FnSquaresAreCut.j3 kj35 t265 bt266.1 bt266.2 bt274.1 bt282.1 true) else ((laws_uSameRows.f kj35 bt274.1 bt278.1).bind fun t287 => (if t287 = true then (if (bt282.2 != bt284.2) = true then (laws_FnSquaresAreCut.j3 kj35 t265 bt266.1 bt266.2 bt274.1 bt282.1 true) else (if bt282.1 = bt284.1 then (if (bt274.2 != bt266.2) = true then (laws_FnSquaresAreCut.j3 kj35 t265 bt266.1 bt266.2 bt274.1 bt282.1 true) else (laws_FnSquaresAreCut.j3 kj35 t265 bt266.1 bt266.2 bt274.1 bt282.1 (bt282.2 != bt266.2))) else (laws_FnSquaresAreCut.j3 kj35 t265 bt266.1 bt266.2 bt274.1 bt282.1 true))) else (laws_FnSquaresAreCut.j3 kj35 t265 bt266.1 bt266.2 bt274.1 bt282.1 true)))) else (laws_FnSquaresAreCut.j3 kj35 t265 bt266.1 bt266.2 bt274.1 bt282.1 true))))))))))) = some r := by rw [if_neg (show ¬ (false = true) by decide)] at H; exact H
                    clear H
                    have H := H1
                    clear H1
                    replace H := Option.bind_eq_some_iff.mp H
                    obtain ⟨t265, A410, H⟩ := H
                    replace H : ((impl_SquareBorder.f kj35 t265).bind fun bt266 => ((spec_SquareBorder.f kj35 t265).bind fun bt270 => ((impl_SquareCells.f kj35 t265).bind fun bt274 => ((spec_SquareCells.f kj35 t265).bind fun bt278 => ((impl_CountSquare.f t265).bind fun bt282 => ((spec_CountSquare.f t265).bind fun bt284 => (if (bt266.2 != bt270.2) = true then (laws_FnSquaresAreCut.j3 kj35 t265 bt266.1 bt266.2 bt274.1 bt282.1 true) else ((laws_uSame.f kj35 bt266.1 bt270.1).bind fun t286 => (if t286 = true then (if (bt274.2 != bt278.2) = true then (laws_FnSquaresAreCut.j3 kj35 t265 bt266.1 bt266.2 bt274.1 bt282.1 true) else ((laws_uSameRows.f kj35 bt274.1 bt278.1).bind fun t287 => (if t287 = true then (if (bt282.2 != bt284.2) = true then (laws_FnSquaresAreCut.j3 kj35 t265 bt266.1 bt266.2 bt274.1 bt282.1 true) else (if bt282.1 = bt284.1 then (if (bt274.2 != bt266.2) = true then (laws_FnSquaresAreCut.j3 kj35 t265 bt266.1 bt266.2 bt274.1 bt282.1 true) else (laws_FnSquaresAreCut.j3 kj35 t265 bt266.1 bt266.2 bt274.1 bt282.1 (bt282.2 != bt266.2))) else (laws_FnSquaresAreCut.j3 kj35 t265 bt266.1 bt266.2 bt274.1 bt282.1 true))) else (laws_FnSquaresAreCut.j3 kj35 t265 bt266.1 bt266.2 bt274.1 bt282.1 true)))) else (laws_FnSquaresAreCut.j3 kj35 t265 bt266.1 bt266.2 bt274.1 bt282.1 true)))))))))) = some r := H
                    have A41 := Aside0.mk A410
                    clear A410
                    replace H := Option.bind_eq_some_iff.mp H
                    obtain ⟨⟨t266, t267⟩, A420, H⟩ := H
                    replace H : ((spec_SquareBorder.f kj35 t265).bind fun bt270 => ((impl_SquareCells.f kj35 t265).bind fun bt274 => ((spec_SquareCells.f kj35 t265).bind fun bt278 => ((impl_CountSquare.f t265).bind fun bt282 => ((spec_CountSquare.f t265).bind fun bt284 => (if (t267 != bt270.2) = true then (laws_FnSquaresAreCut.j3 kj35 t265 t266 t267 bt274.1 bt282.1 true) else ((laws_uSame.f kj35 t266 bt270.1).bind fun t286 => (if t286 = true then (if (bt274.2 != bt278.2) = true then (laws_FnSquaresAreCut.j3 kj35 t265 t266 t267 bt274.1 bt282.1 true) else ((laws_uSameRows.f kj35 bt274.1 bt278.1).bind fun t287 => (if t287 = true then (if (bt282.2 != bt284.2) = true then (laws_FnSquaresAreCut.j3 kj35 t265 t266 t267 bt274.1 bt282.1 true) else (if bt282.1 = bt284.1 then (if (bt274.2 != t267) = true then (laws_FnSquaresAreCut.j3 kj35 t265 t266 t267 bt274.1 bt282.1 true) else (laws_FnSquaresAreCut.j3 kj35 t265 t266 t267 bt274.1 bt282.1 (bt282.2 != t267))) else (laws_FnSquaresAreCut.j3 kj35 t265 t266 t267 bt274.1 bt282.1 true))) else (laws_FnSquaresAreCut.j3 kj35 t265 t266 t267 bt274.1 bt282.1 true)))) else (laws_FnSquaresAreCut.j3 kj35 t265 t266 t267 bt274.1 bt282.1 true))))))))) = some r := H
                    have A42 := Aside0.mk A420
                    clear A420
                    replace H := Option.bind_eq_some_iff.mp H
                    obtain ⟨⟨t270, t271⟩, A430, H⟩ := H
                    replace H : ((impl_SquareCells.f kj35 t265).bind fun bt274 => ((spec_SquareCells.f kj35 t265).bind fun bt278 => ((impl_CountSquare.f t265).bind fun bt282 => ((spec_CountSquare.f t265).bind fun bt284 => (if (t267 != t271) = true then (laws_FnSquaresAreCut.j3 kj35 t265 t266 t267 bt274.1 bt282.1 true) else ((laws_uSame.f kj35 t266 t270).bind fun t286 => (if t286 = true then (if (bt274.2 != bt278.2) = true then (laws_FnSquaresAreCut.j3 kj35 t265 t266 t267 bt274.1 bt282.1 true) else ((laws_uSameRows.f kj35 bt274.1 bt278.1).bind fun t287 => (if t287 = true then (if (bt282.2 != bt284.2) = true then (laws_FnSquaresAreCut.j3 kj35 t265 t266 t267 bt274.1 bt282.1 true) else (if bt282.1 = bt284.1 then (if (bt274.2 != t267) = true then (laws_FnSquaresAreCut.j3 kj35 t265 t266 t267 bt274.1 bt282.1 true) else (laws_FnSquaresAreCut.j3 kj35 t265 t266 t267 bt274.1 bt282.1 (bt282.2 != t267))) else (laws_FnSquaresAreCut.j3 kj35 t265 t266 t267 bt274.1 bt282.1 true))) else (laws_FnSquaresAreCut.j3 kj35 t265 t266 t267 bt274.1 bt282.1 true)))) else (laws_FnSquaresAreCut.j3 kj35 t265 t266 t267 bt274.1 bt282.1 true)))))))) = some r := H
                    have A43 := Aside0.mk A430
                    clear A430
                    replace H := Option.bind_eq_some_iff.mp H
                    obtain ⟨⟨t274, t275⟩, A440, H⟩ := H
                    replace H : ((spec_SquareCells.f kj35 t265).bind fun bt278 => ((impl_CountSquare.f t265).bind fun bt282 => ((spec_CountSquare.f t265).bind fun bt284 => (if (t267 != t271) = true then (laws_FnSquaresAreCut.j3 kj35 t265 t266 t267 t274 bt282.1 true) else ((laws_uSame.f kj35 t266 t270).bind fun t286 => (if t286 = true then (if (t275 != bt278.2) = true then (laws_FnSquaresAreCut.j3 kj35 t265 t266 t267 t274 bt282.1 true) else ((laws_uSameRows.f kj35 t274 bt278.1).bind fun t287 => (if t287 = true then (if (bt282.2 != bt284.2) = true then (laws_FnSquaresAreCut.j3 kj35 t265 t266 t267 t274 bt282.1 true) else (if bt282.1 = bt284.1 then (if (t275 != t267) = true then (laws_FnSquaresAreCut.j3 kj35 t265 t266 t267 t274 bt282.1 true) else (laws_FnSquaresAreCut.j3 kj35 t265 t266 t267 t274 bt282.1 (bt282.2 != t267))) else (laws_FnSquaresAreCut.j3 kj35 t265 t266 t267 t274 bt282.1 true))) else (laws_FnSquaresAreCut.j3 kj35 t265 t266 t267 t274 bt282.1 true)))) else (laws_FnSquaresAreCut.j3 kj35 t265 t266 t267 t274 bt282.1 true))))))) = some r := H
                    have A44 := Aside0.mk A440
                    clear A440
                    replace H := Option.bind_eq_some_iff.mp H
                    obtain ⟨⟨t278, t281⟩, A450, H⟩ := H
                    replace H : ((impl_CountSquare.f t265).bind fun bt282 => ((spec_CountSquare.f t265).bind fun bt284 => (if (t267 != t271) = true then (laws_FnSquaresAreCut.j3 kj35 t265 t266 t267 t274 bt282.1 true) else ((laws_uSame.f kj35 t266 t270).bind fun t286 => (if t286 = true then (if (t275 != t281) = true then (laws_FnSquaresAreCut.j3 kj35 t265 t266 t267 t274 bt282.1 true) else ((laws_uSameRows.f kj35 t274 t278).bind fun t287 => (if t287 = true then (if (bt282.2 != bt284.2) = true then (laws_FnSquaresAreCut.j3 kj35 t265 t266 t267 t274 bt282.1 true) else (if bt282.1 = bt284.1 then (if (t275 != t267) = true then (laws_FnSquaresAreCut.j3 kj35 t265 t266 t267 t274 bt282.1 true) else (laws_FnSquaresAreCut.j3 kj35 t265 t266 t267 t274 bt282.1 (bt282.2 != t267))) else (laws_FnSquaresAreCut.j3 kj35 t265 t266 t267 t274 bt282.1 true))) else (laws_FnSquaresAreCut.j3 kj35 t265 t266 t267 t274 bt282.1 true)))) else (laws_FnSquaresAreCut.j3 kj35 t265 t266 t267 t274 bt282.1 true)))))) = some r := H
                    have A45 := Aside0.mk A450
                    clear A450
                    replace H := Option.bind_eq_some_iff.mp H
                    obtain ⟨⟨t282, t283⟩, A460, H⟩ := H
                    replace H : ((spec_CountSquare.f t265).bind fun bt284 => (if (t267 != t271) = true then (laws_FnSquaresAreCut.j3 kj35 t265 t266 t267 t274 t282 true) else ((laws_uSame.f kj35 t266 t270).bind fun t286 => (if t286 = true then (if (t275 != t281) = true then (laws_FnSquaresAreCut.j3 kj35 t265 t266 t267 t274 t282 true) else ((laws_uSameRows.f kj35 t274 t278).bind fun t287 => (if t287 = true then (if (t283 != bt284.2) = true then (laws_FnSquaresAreCut.j3 kj35 t265 t266 t267 t274 t282 true) else (if t282 = bt284.1 then (if (t275 != t267) = true then (laws_FnSquaresAreCut.j3 kj35 t265 t266 t267 t274 t282 true) else (laws_FnSquaresAreCut.j3 kj35 t265 t266 t267 t274 t282 (t283 != t267))) else (laws_FnSquaresAreCut.j3 kj35 t265 t266 t267 t274 t282 true))) else (laws_FnSquaresAreCut.j3 kj35 t265 t266 t267 t274 t282 true)))) else (laws_FnSquaresAreCut.j3 kj35 t265 t266 t267 t274 t282 true))))) = some r := H
                    have A46 := Aside0.mk A460
                    clear A460
                    replace H := Option.bind_eq_some_iff.mp H
                    obtain ⟨⟨t284, t285⟩, A470, H⟩ := H
                    replace H : (if (t267 != t271) = true then (laws_FnSquaresAreCut.j3 kj35 t265 t266 t267 t274 t282 true) else ((laws_uSame.f kj35 t266 t270).bind fun t286 => (if t286 = true then (if (t275 != t281) = true then (laws_FnSquaresAreCut.j3 kj35 t265 t266 t267 t274 t282 true) else ((laws_uSameRows.f kj35 t274 t278).bind fun t287 => (if t287 = true then (if (t283 != t285) = true then (laws_FnSquaresAreCut.j3 kj35 t265 t266 t267 t274 t282 true) else (if t282 = t284 then (if (t275 != t267) = true then (laws_FnSquaresAreCut.j3 kj35 t265 t266 t267 t274 t282 true) else (laws_FnSquaresAreCut.j3 kj35 t265 t266 t267 t274 t282 (t283 != t267))) else (laws_FnSquaresAreCut.j3 kj35 t265 t266 t267 t274 t282 true))) else (laws_FnSquaresAreCut.j3 kj35 t265 t266 t267 t274 t282 true)))) else (laws_FnSquaresAreCut.j3 kj35 t265 t266 t267 t274 t282 true)))) = some r := H
                    have A47 := Aside0.mk A470
                    clear A470
                    have HC48 := Aside0.mk H
                    clear H
                    go_upto_region 24 with (first | ((with_reducible refine gate_callee (f := 52) rfl ?_); refine goesL_ (some 113) rfl rfl Try.func52 (by kernel_rfl) rfl #[.slice A1 l1.length c1] rfl (by (try simp only [List.map_toArray, List.map_cons, List.map_nil]); first | done | rfl | (simp only [List.length_drop, List.length_take]; rfl)) ?_; (with_reducible refine (spec_DrawSquareBorder.calls _ _ l1 t265 _ ?side1 ?side2 A41.out).mono ?_); (case side1 => repeat (first | exact (Kd.C_below HR1.out HB.out) | (with_reducible refine Kd.C_alloc ?_ _) | (with_reducible refine Kd.C_drewN ?_ _) | (with_reducible refine Kd.C_drew ?_))); (case side2 => exact HC1.out); rintro e w49 ⟨rfl, hb⟩; refine ⟨_, rfl, ?_⟩; have n0_ := Aside0.mk (below_step (by repeat (first | (with_reducible first | exact HB.out | apply below_alloc | apply pw_below_drewN | apply below_drew1) | exact HB.out)) hb); clear HB; have HB := n0_; clear n0_; (try clear hb); (try clear hb2); (try clear hk); (try clear hi)) | ((with_reducible refine gate_callee (f := 23) rfl ?_); refine goesL_ (some 116) rfl rfl Try.func23 (by kernel_rfl) rfl #[.int .i64 t265] rfl (by (try simp only [List.map_toArray, List.map_cons, List.map_nil]); first | done | rfl | (simp only [List.length_drop, List.length_take]; rfl)) ?_; (with_reducible refine (impl_SquareBorder.calls kj35 t265 t266 t267 _ A42.out).mono ?_); rintro e w50 ⟨v268, rfl, ho0, hb⟩; refine ⟨_, rfl, ?_⟩; have n0_ := Aside0.mk (Kd.R_lower ho0 (below_size (by repeat (first | (with_reducible first | exact HB.out | apply below_alloc | apply pw_below_drewN | apply below_drew1) | exact HB.out)))); have n1_ := Aside0.mk (below_step (by repeat (first | (with_reducible first | exact HB.out | apply below_alloc | apply pw_below_drewN | apply below_drew1) | exact HB.out)) hb); clear HB; have HO269 := n0_; have HB := n1_; clear n0_ n1_; (try clear hb); (try clear hb2); (try clear hk); (try clear hi); (try clear ho0)) | ((with_reducible refine gate_callee (f := 22) rfl ?_); refine goesL_ (some 121) rfl rfl Try.func22 (by kernel_rfl) rfl #[.int .i64 t265] rfl (by (try simp only [List.map_toArray, List.map_cons, List.map_nil]); first | done | rfl | (simp only [List.length_drop, List.length_take]; rfl)) ?_; (with_reducible refine (spec_SquareBorder.calls kj35 t265 t270 t271 _ A43.out).mono ?_); rintro e w51 ⟨v272, rfl, ho0, hb⟩; refine ⟨_, rfl, ?_⟩; have n0_ := Aside0.mk (Kd.R_elder' (by (with_reducible repeat (first | apply Kd.R_alloc | apply Kd.R_drewN | apply Kd.R_drew)); exact HO269.out) (Kd.R_base ho0) hb); have n1_ := Aside0.mk (Kd.R_lower (Kd.R_new' ho0 (Kd.R_lt (by (with_reducible repeat (first | apply Kd.R_alloc | apply Kd.R_drewN | apply Kd.R_drew)); exact HO269.out))) (below_size (by repeat (first | (with_reducible first | exact HB.out | apply below_alloc | apply pw_below_drewN | apply below_drew1) | exact HB.out)))); have n2_ := Aside0.mk (below_step (by repeat (first | (with_reducible first | exact HB.out | apply below_alloc | apply pw_below_drewN | apply below_drew1) | exact HB.out)) hb); clear HO269; clear HB; have HO269 := n0_; have HO273 := n1_; have HB := n2_; clear n0_ n1_ n2_; (try clear hb); (try clear hb2); (try clear hk); (try clear hi); (try clear ho0)) | ((with_reducible refine gate_callee (f := 33) rfl ?_); refine goesL_ (some 126) rfl rfl Try.func33 (by kernel_rfl) rfl #[.int .i64 t265] rfl (by (try simp only [List.map_toArray, List.map_cons, List.map_nil]); first | done | rfl | (simp only [List.length_drop, List.length_take]; rfl)) ?_; (with_reducible refine (impl_SquareCells.calls kj35 t265 t274 t275 _ A44.out).mono ?_); rintro e w52 ⟨v276, rfl, ho0, hb⟩; refine ⟨_, rfl, ?_⟩; have n0_ := Aside0.mk (Kd.R_below (by (with_reducible repeat (first | apply Kd.R_alloc | apply Kd.R_drewN | apply Kd.R_drew)); exact HO269.out) hb); have n1_ := Aside0.mk (Kd.R_below (by (with_reducible repeat (first | apply Kd.R_alloc | apply Kd.R_drewN | apply Kd.R_drew)); exact HO273.out) hb); have n2_ := Aside0.mk (Kd.N_lower (Kd.N_mono (ok' := fun k_ => some k_ ≠ (v268 : Value).ownBlock ∧ some k_ ≠ (v272 : Value).ownBlock) (Kd.S_N (Kd.S_bound ho0)) (fun k_ hk_ => ⟨(Kd.fresh' (Kd.R_lt (by (with_reducible repeat (first | apply Kd.R_alloc | apply Kd.R_drewN | apply Kd.R_drew)); exact HO269.out)) k_ hk_.2.1), (Kd.fresh' (Kd.R_lt (by (with_reducible repeat (first | apply Kd.R_alloc | apply Kd.R_drewN | apply Kd.R_drew)); exact HO273.out)) k_ hk_.2.1)⟩)) (below_size (by repeat (first | (with_reducible first | exact HB.out | apply below_alloc | apply pw_below_drewN | apply below_drew1) | exact HB.out)))); have n3_ := Aside0.mk (below_step (by repeat (first | (with_reducible first | exact HB.out | apply below_alloc | apply pw_below_drewN | apply below_drew1) | exact HB.out)) hb); clear HO269; clear HO273; clear HB; have HO269 := n0_; have HO273 := n1_; have HO277 := n2_; have HB := n3_; clear n0_ n1_ n2_ n3_; (try clear hb); (try clear hb2); (try clear hk); (try clear hi); (try clear ho0)) | ((with_reducible refine gate_callee (f := 32) rfl ?_); refine goesL_ (some 131) rfl rfl Try.func32 (by kernel_rfl) rfl #[.int .i64 t265] rfl (by (try simp only [List.map_toArray, List.map_cons, List.map_nil]); first | done | rfl | (simp only [List.length_drop, List.length_take]; rfl)) ?_; (with_reducible refine (spec_SquareCells.calls kj35 t265 t278 t281 _ A45.out).mono ?_); rintro e w53 ⟨v279, rfl, ho0, hb⟩; refine ⟨_, rfl, ?_⟩; have n0_ := Aside0.mk (Kd.R_below (by (with_reducible repeat (first | apply Kd.R_alloc | apply Kd.R_drewN | apply Kd.R_drew)); exact HO269.out) hb); have n1_ := Aside0.mk (Kd.R_below (by (with_reducible repeat (first | apply Kd.R_alloc | apply Kd.R_drewN | apply Kd.R_drew)); exact HO273.out) hb); have n2_ := Aside0.mk (Kd.N_elder' (by (with_reducible repeat (first | apply Kd.N_alloc | apply Kd.N_drewN | apply Kd.N_drew)); exact HO277.out) (Kd.N_base ho0) hb); have n3_ := Aside0.mk (Kd.N_lower (Kd.N_mono (ok' := fun k_ => some k_ ≠ (v268 : Value).ownBlock ∧ some k_ ≠ (v272 : Value).ownBlock ∧ some k_ ≠ (v276 : Value).ownBlock) ho0 (fun k_ hk_ => ⟨(Kd.fresh' (Kd.R_lt (by (with_reducible repeat (first | apply Kd.R_alloc | apply Kd.R_drewN | apply Kd.R_drew)); exact HO269.out)) k_ hk_), (Kd.fresh' (Kd.R_lt (by (with_reducible repeat (first | apply Kd.R_alloc | apply Kd.R_drewN | apply Kd.R_drew)); exact HO273.out)) k_ hk_), (Kd.fresh' (Kd.N_lt (by (with_reducible repeat (first | apply Kd.N_alloc | apply Kd.N_drewN | apply Kd.N_drew)); exact HO277.out)) k_ hk_)⟩)) (below_size (by repeat (first | (with_reducible first | exact HB.out | apply below_alloc | apply pw_below_drewN | apply below_drew1) | exact HB.out)))); have n4_ := Aside0.mk (below_step (by repeat (first | (with_reducible first | exact HB.out | apply below_alloc | apply pw_below_drewN | apply below_drew1) | exact HB.out)) hb); clear HO269; clear HO273; clear HO277; clear HB; have HO269 := n0_; have HO273 := n1_; have HO277 := n2_; have HO280 := n3_; have HB := n4_; clear n0_ n1_ n2_ n3_ n4_; (try clear hb); (try clear hb2); (try clear hk); (try clear hi); (try clear ho0)) | ((with_reducible refine gate_callee (f := 53) rfl ?_); refine goesL_ (some 136) rfl rfl Try.func53 (by kernel_rfl) rfl #[.int .i64 t265] rfl (by (try simp only [List.map_toArray, List.map_cons, List.map_nil]); first | done | rfl | (simp only [List.length_drop, List.length_take]; rfl)) ?_; (with_reducible refine (impl_CountSquare.calls t265 t282 t283 _ A46.out).mono ?_); rintro e w' ⟨rfl, ⟨nd, rfl⟩⟩; refine ⟨_, rfl, ?_⟩) | ((with_reducible refine gate_callee (f := 54) rfl ?_); refine goesL_ (some 141) rfl rfl Try.func54 (by kernel_rfl) rfl #[.int .i64 t265] rfl (by (try simp only [List.map_toArray, List.map_cons, List.map_nil]); first | done | rfl | (simp only [List.length_drop, List.length_take]; rfl)) ?_; (with_reducible refine (spec_CountSquare.calls t265 t284 t285 _ A47.out).mono ?_); rintro e w' ⟨rfl, ⟨nd, rfl⟩⟩; refine ⟨_, rfl, ?_⟩))
                    (try simp only [Act.put, List.setIfInBounds_toArray, List.set_cons_zero, List.set_cons_succ])
                    go_cut [183] (fun v183 wc => ∃ (kq : Nat) (x183_47 : Bool), v183 = .bool x183_47 ∧ Aside0 (laws_FnSquaresAreCut.j3 kq t265 t266 t267 t274 t282 x183_47 = some r) ∧ Aside0 (kq ≤ kj35) ∧ Aside0 (Kd.R (Kd.int .i64) 3 wc w.heap.size (fun _ => True) v268 t266) ∧ Aside0 (Kd.N (Kd.slice 3 (Kd.int .i64)) 32 wc w.heap.size (fun k_ => some k_ ≠ (v268 : Value).ownBlock) v276 t274) ∧ Aside0 (Below w.heap.size w wc))
                    case first =>
                      have H := HC48.out
                      clear HC48
                      by_cases c54 : (t267 != t271) = true
                      · as_aux_lemma =>
                        rw [if_pos c54] at H
                        have c54b0 : (t267 != t271) = true := c54
                        (try (have c54b1 : decide (t267 = t271) = false := by simpa using c54))
                        (try (have c54b2 : (t267 == t271) = false := by simpa using c54))
                        (try (have c54b3 : ¬ (t267 = t271) := by simpa using c54))
                        clear c54
                        (first | rw [c54b0] | (simp only [i64_w, i32_w]; rw [c54b0]) | skip)
                        have H' := Aside0.mk H
                        clear H
                        go_wp2
                        go_meet
                        case rel => exact ⟨_, (true), (by first | rfl | (simp; done) | (simp [*]; done)), H', ⟨by have := HJ7.out; have := HJ16.out; have := HJ35.out; first | omega | exact Nat.le_refl _⟩, ⟨by (with_reducible repeat (first | apply Kd.R_alloc | apply Kd.R_drewN | apply Kd.R_drew)); exact Kd.R_mono HO269.out (fun _ hk => trivial)⟩, ⟨by (with_reducible repeat (first | apply Kd.N_alloc | apply Kd.N_drewN | apply Kd.N_drew)); exact Kd.N_mono HO277.out (fun _ hk => hk.1.1)⟩, ⟨by repeat (first | (with_reducible first | exact HB.out | apply below_alloc | apply pw_below_drewN | apply below_drew1) | exact HB.out)⟩⟩
                      · as_aux_lemma =>
                        rw [if_neg c54] at H
                        have c54b0 : (t267 != t271) = false := by simpa using c54
                        (try (have c54b1 : decide (t267 = t271) = true := by simpa using c54))
                        (try (have c54b2 : (t267 == t271) = true := by simpa using c54))
                        clear c54
                        (first | rw [c54b0] | (simp only [i64_w, i32_w]; rw [c54b0]) | skip)
                        replace H := Option.bind_eq_some_iff.mp H
                        obtain ⟨t286, A550, H⟩ := H
                        replace H : (if t286 = true then (if (t275 != t281) = true then (laws_FnSquaresAreCut.j3 kj35 t265 t266 t267 t274 t282 true) else ((laws_uSameRows.f kj35 t274 t278).bind fun t287 => (if t287 = true then (if (t283 != t285) = true then (laws_FnSquaresAreCut.j3 kj35 t265 t266 t267 t274 t282 true) else (if t282 = t284 then (if (t275 != t267) = true then (laws_FnSquaresAreCut.j3 kj35 t265 t266 t267 t274 t282 true) else (laws_FnSquaresAreCut.j3 kj35 t265 t266 t267 t274 t282 (t283 != t267))) else (laws_FnSquaresAreCut.j3 kj35 t265 t266 t267 t274 t282 true))) else (laws_FnSquaresAreCut.j3 kj35 t265 t266 t267 t274 t282 true)))) else (laws_FnSquaresAreCut.j3 kj35 t265 t266 t267 t274 t282 true)) = some r := H
                        have A55 := Aside0.mk A550
                        clear A550
                        by_cases c56 : t286 = true
                        · subst c56
                          have H1 : (if (t275 != t281) = true then (laws_FnSquaresAreCut.j3 kj35 t265 t266 t267 t274 t282 true) else ((laws_uSameRows.f kj35 t274 t278).bind fun t287 => (if t287 = true then (if (t283 != t285) = true then (laws_FnSquaresAreCut.j3 kj35 t265 t266 t267 t274 t282 true) else (if t282 = t284 then (if (t275 != t267) = true then (laws_FnSquaresAreCut.j3 kj35 t265 t266 t267 t274 t282 true) else (laws_FnSquaresAreCut.j3 kj35 t265 t266 t267 t274 t282 (t283 != t267))) else (laws_FnSquaresAreCut.j3 kj35 t265 t266 t267 t274 t282 true))) else (laws_FnSquaresAreCut.j3 kj35 t265 t266 t267 t274 t282 true)))) = some r := by rw [if_pos rfl] at H; exact H
                          clear H
                          have H := H1
                          clear H1
                          by_cases c57 : (t275 != t281) = true
                          · as_aux_lemma =>
                            rw [if_pos c57] at H
                            have c57b0 : (t275 != t281) = true := c57
                            (try (have c57b1 : decide (t275 = t281) = false := by simpa using c57))
                            (try (have c57b2 : (t275 == t281) = false := by simpa using c57))
                            (try (have c57b3 : ¬ (t275 = t281) := by simpa using c57))
                            clear c57
                            have H' := Aside0.mk H
                            clear H
                            obtain ⟨Ao58, co58, eo58⟩ := Kd.R_slice HO269.out
                            subst eo58
                            obtain ⟨Ao59, co59, eo59⟩ := Kd.R_slice HO273.out
                            subst eo59
                            go_wp2_with (first | (go_at_call 48; (with_reducible refine (laws_uSame.calls kj35 _ _ t266 _ _ t270 true _ ?side1 ?side2 ?side3 ?side4 A55.out).mono ?_); (case side1 => repeat (first | exact (Kd.R_reads' HO269.out).2.2 | (with_reducible refine Kd.C_alloc ?_ _) | (with_reducible refine Kd.C_drewN ?_ _) | (with_reducible refine Kd.C_drew ?_))); (case side2 => exact (Kd.R_reads' HO269.out).2.1); (case side3 => repeat (first | exact (Kd.R_reads' HO273.out).2.2 | (with_reducible refine Kd.C_alloc ?_ _) | (with_reducible refine Kd.C_drewN ?_ _) | (with_reducible refine Kd.C_drew ?_))); (case side4 => exact (Kd.R_reads' HO273.out).2.1); rintro e w' ⟨rfl, ⟨nd, rfl⟩⟩))
                            go_meet
                            case rel => exact ⟨_, (true), (by first | rfl | (simp; done) | (simp [*]; done)), H', ⟨by have := HJ7.out; have := HJ16.out; have := HJ35.out; first | omega | exact Nat.le_refl _⟩, ⟨by (with_reducible repeat (first | apply Kd.R_alloc | apply Kd.R_drewN | apply Kd.R_drew)); exact Kd.R_mono HO269.out (fun _ hk => trivial)⟩, ⟨by (with_reducible repeat (first | apply Kd.N_alloc | apply Kd.N_drewN | apply Kd.N_drew)); exact Kd.N_mono HO277.out (fun _ hk => hk.1.1)⟩, ⟨by repeat (first | (with_reducible first | exact HB.out | apply below_alloc | apply pw_below_drewN | apply below_drew1) | exact HB.out)⟩⟩
                          · as_aux_lemma =>
                            rw [if_neg c57] at H
                            have c57b0 : (t275 != t281) = false := by simpa using c57
                            (try (have c57b1 : decide (t275 = t281) = true := by simpa using c57))
                            (try (have c57b2 : (t275 == t281) = true := by simpa using c57))
                            clear c57
                            replace H := Option.bind_eq_some_iff.mp H
                            obtain ⟨t287, A600, H⟩ := H
                            replace H : (if t287 = true then (if (t283 != t285) = true then (laws_FnSquaresAreCut.j3 kj35 t265 t266 t267 t274 t282 true) else (if t282 = t284 then (if (t275 != t267) = true then (laws_FnSquaresAreCut.j3 kj35 t265 t266 t267 t274 t282 true) else (laws_FnSquaresAreCut.j3 kj35 t265 t266 t267 t274 t282 (t283 != t267))) else (laws_FnSquaresAreCut.j3 kj35 t265 t266 t267 t274 t282 true))) else (laws_FnSquaresAreCut.j3 kj35 t265 t266 t267 t274 t282 true)) = some r := H
                            have A60 := Aside0.mk A600
                            clear A600
                            by_cases c61 : t287 = true
                            · subst c61
                              have H1 : (if (t283 != t285) = true then (laws_FnSquaresAreCut.j3 kj35 t265 t266 t267 t274 t282 true) else (if t282 = t284 then (if (t275 != t267) = true then (laws_FnSquaresAreCut.j3 kj35 t265 t266 t267 t274 t282 true) else (laws_FnSquaresAreCut.j3 kj35 t265 t266 t267 t274 t282 (t283 != t267))) else (laws_FnSquaresAreCut.j3 kj35 t265 t266 t267 t274 t282 true))) = some r := by rw [if_pos rfl] at H; exact H
                              clear H
                              have H := H1
                              clear H1
                              by_cases c62 : (t283 != t285) = true
                              · as_aux_lemma =>
                                rw [if_pos c62] at H
                                have c62b0 : (t283 != t285) = true := c62
                                (try (have c62b1 : decide (t283 = t285) = false := by simpa using c62))
                                (try (have c62b2 : (t283 == t285) = false := by simpa using c62))
                                (try (have c62b3 : ¬ (t283 = t285) := by simpa using c62))
                                clear c62
                                have H' := Aside0.mk H
                                clear H
                                obtain ⟨Ao63, co63, eo63⟩ := Kd.R_slice HO269.out
                                subst eo63
                                obtain ⟨Ao64, co64, eo64⟩ := Kd.R_slice HO273.out
                                subst eo64
                                go_wp2_with (first | (go_at_call 48; (with_reducible refine (laws_uSame.calls kj35 _ _ t266 _ _ t270 true _ ?side1 ?side2 ?side3 ?side4 A55.out).mono ?_); (case side1 => repeat (first | exact (Kd.R_reads' HO269.out).2.2 | (with_reducible refine Kd.C_alloc ?_ _) | (with_reducible refine Kd.C_drewN ?_ _) | (with_reducible refine Kd.C_drew ?_))); (case side2 => exact (Kd.R_reads' HO269.out).2.1); (case side3 => repeat (first | exact (Kd.R_reads' HO273.out).2.2 | (with_reducible refine Kd.C_alloc ?_ _) | (with_reducible refine Kd.C_drewN ?_ _) | (with_reducible refine Kd.C_drew ?_))); (case side4 => exact (Kd.R_reads' HO273.out).2.1); rintro e w' ⟨rfl, ⟨nd, rfl⟩⟩; obtain ⟨Ao65, co65, eo65⟩ := Kd.N_slice HO277.out; subst eo65; obtain ⟨Ao66, co66, eo66⟩ := Kd.N_slice HO280.out; subst eo66) | (go_at_call 55; (with_reducible refine (laws_uSameRows.calls kj35 _ _ t274 _ _ t278 true _ ?side1 ?side2 ?side3 ?side4 A60.out).mono ?_); (case side1 => repeat (first | exact (Kd.N_reads' HO277.out).2.2 | (with_reducible refine Kd.C_alloc ?_ _) | (with_reducible refine Kd.C_drewN ?_ _) | (with_reducible refine Kd.C_drew ?_))); (case side2 => exact (Kd.N_reads' HO277.out).2.1); (case side3 => repeat (first | exact (Kd.N_reads' HO280.out).2.2 | (with_reducible refine Kd.C_alloc ?_ _) | (with_reducible refine Kd.C_drewN ?_ _) | (with_reducible refine Kd.C_drew ?_))); (case side4 => exact (Kd.N_reads' HO280.out).2.1); rintro e w' ⟨rfl, ⟨nd, rfl⟩⟩))
                                go_meet
                                case rel => exact ⟨_, (true), (by first | rfl | (simp; done) | (simp [*]; done)), H', ⟨by have := HJ7.out; have := HJ16.out; have := HJ35.out; first | omega | exact Nat.le_refl _⟩, ⟨by (with_reducible repeat (first | apply Kd.R_alloc | apply Kd.R_drewN | apply Kd.R_drew)); exact Kd.R_mono HO269.out (fun _ hk => trivial)⟩, ⟨by (with_reducible repeat (first | apply Kd.N_alloc | apply Kd.N_drewN | apply Kd.N_drew)); exact Kd.N_mono HO277.out (fun _ hk => hk.1.1)⟩, ⟨by repeat (first | (with_reducible first | exact HB.out | apply below_alloc | apply pw_below_drewN | apply below_drew1) | exact HB.out)⟩⟩
                              · as_aux_lemma =>
                                rw [if_neg c62] at H
                                have c62b0 : (t283 != t285) = false := by simpa using c62
                                (try (have c62b1 : decide (t283 = t285) = true := by simpa using c62))
                                (try (have c62b2 : (t283 == t285) = true := by simpa using c62))
                                clear c62
                                by_cases c67 : t282 = t284
                                · as_aux_lemma =>
                                  rw [if_pos c67] at H
                                  have c67b0 : (t282 == t284) = true := beq_iff_eq.mpr c67
                                  have c67b1 : (t282 != t284) = false := bne_eq_false_iff_eq.mpr c67
                                  clear c67
                                  by_cases c68 : (t275 != t267) = true
                                  · as_aux_lemma =>
                                    rw [if_pos c68] at H
                                    have c68b0 : (t275 != t267) = true := c68
                                    (try (have c68b1 : decide (t275 = t267) = false := by simpa using c68))
                                    (try (have c68b2 : (t275 == t267) = false := by simpa using c68))
                                    (try (have c68b3 : ¬ (t275 = t267) := by simpa using c68))
                                    clear c68
                                    have H' := Aside0.mk H
                                    clear H
                                    obtain ⟨Ao69, co69, eo69⟩ := Kd.R_slice HO269.out
                                    subst eo69
                                    obtain ⟨Ao70, co70, eo70⟩ := Kd.R_slice HO273.out
                                    subst eo70
                                    go_wp2_with (first | (go_at_call 48; (with_reducible refine (laws_uSame.calls kj35 _ _ t266 _ _ t270 true _ ?side1 ?side2 ?side3 ?side4 A55.out).mono ?_); (case side1 => repeat (first | exact (Kd.R_reads' HO269.out).2.2 | (with_reducible refine Kd.C_alloc ?_ _) | (with_reducible refine Kd.C_drewN ?_ _) | (with_reducible refine Kd.C_drew ?_))); (case side2 => exact (Kd.R_reads' HO269.out).2.1); (case side3 => repeat (first | exact (Kd.R_reads' HO273.out).2.2 | (with_reducible refine Kd.C_alloc ?_ _) | (with_reducible refine Kd.C_drewN ?_ _) | (with_reducible refine Kd.C_drew ?_))); (case side4 => exact (Kd.R_reads' HO273.out).2.1); rintro e w' ⟨rfl, ⟨nd, rfl⟩⟩; obtain ⟨Ao71, co71, eo71⟩ := Kd.N_slice HO277.out; subst eo71; obtain ⟨Ao72, co72, eo72⟩ := Kd.N_slice HO280.out; subst eo72) | (go_at_call 55; (with_reducible refine (laws_uSameRows.calls kj35 _ _ t274 _ _ t278 true _ ?side1 ?side2 ?side3 ?side4 A60.out).mono ?_); (case side1 => repeat (first | exact (Kd.N_reads' HO277.out).2.2 | (with_reducible refine Kd.C_alloc ?_ _) | (with_reducible refine Kd.C_drewN ?_ _) | (with_reducible refine Kd.C_drew ?_))); (case side2 => exact (Kd.N_reads' HO277.out).2.1); (case side3 => repeat (first | exact (Kd.N_reads' HO280.out).2.2 | (with_reducible refine Kd.C_alloc ?_ _) | (with_reducible refine Kd.C_drewN ?_ _) | (with_reducible refine Kd.C_drew ?_))); (case side4 => exact (Kd.N_reads' HO280.out).2.1); rintro e w' ⟨rfl, ⟨nd, rfl⟩⟩))
                                    go_meet
                                    case rel => exact ⟨_, (true), (by first | rfl | (simp; done) | (simp [*]; done)), H', ⟨by have := HJ7.out; have := HJ16.out; have := HJ35.out; first | omega | exact Nat.le_refl _⟩, ⟨by (with_reducible repeat (first | apply Kd.R_alloc | apply Kd.R_drewN | apply Kd.R_drew)); exact Kd.R_mono HO269.out (fun _ hk => trivial)⟩, ⟨by (with_reducible repeat (first | apply Kd.N_alloc | apply Kd.N_drewN | apply Kd.N_drew)); exact Kd.N_mono HO277.out (fun _ hk => hk.1.1)⟩, ⟨by repeat (first | (with_reducible first | exact HB.out | apply below_alloc | apply pw_below_drewN | apply below_drew1) | exact HB.out)⟩⟩
                                  · as_aux_lemma =>
                                    rw [if_neg c68] at H
                                    have c68b0 : (t275 != t267) = false := by simpa using c68
                                    (try (have c68b1 : decide (t275 = t267) = true := by simpa using c68))
                                    (try (have c68b2 : (t275 == t267) = true := by simpa using c68))
                                    clear c68
                                    have H' := Aside0.mk H
                                    clear H
                                    obtain ⟨Ao73, co73, eo73⟩ := Kd.R_slice HO269.out
                                    subst eo73
                                    obtain ⟨Ao74, co74, eo74⟩ := Kd.R_slice HO273.out
                                    subst eo74
                                    go_wp2_with (first | (go_at_call 48; (with_reducible refine (laws_uSame.calls kj35 _ _ t266 _ _ t270 true _ ?side1 ?side2 ?side3 ?side4 A55.out).mono ?_); (case side1 => repeat (first | exact (Kd.R_reads' HO269.out).2.2 | (with_reducible refine Kd.C_alloc ?_ _) | (with_reducible refine Kd.C_drewN ?_ _) | (with_reducible refine Kd.C_drew ?_))); (case side2 => exact (Kd.R_reads' HO269.out).2.1); (case side3 => repeat (first | exact (Kd.R_reads' HO273.out).2.2 | (with_reducible refine Kd.C_alloc ?_ _) | (with_reducible refine Kd.C_drewN ?_ _) | (with_reducible refine Kd.C_drew ?_))); (case side4 => exact (Kd.R_reads' HO273.out).2.1); rintro e w' ⟨rfl, ⟨nd, rfl⟩⟩; obtain ⟨Ao75, co75, eo75⟩ := Kd.N_slice HO277.out; subst eo75; obtain ⟨Ao76, co76, eo76⟩ := Kd.N_slice HO280.out; subst eo76) | (go_at_call 55; (with_reducible refine (laws_uSameRows.calls kj35 _ _ t274 _ _ t278 true _ ?side1 ?side2 ?side3 ?side4 A60.out).mono ?_); (case side1 => repeat (first | exact (Kd.N_reads' HO277.out).2.2 | (with_reducible refine Kd.C_alloc ?_ _) | (with_reducible refine Kd.C_drewN ?_ _) | (with_reducible refine Kd.C_drew ?_))); (case side2 => exact (Kd.N_reads' HO277.out).2.1); (case side3 => repeat (first | exact (Kd.N_reads' HO280.out).2.2 | (with_reducible refine Kd.C_alloc ?_ _) | (with_reducible refine Kd.C_drewN ?_ _) | (with_reducible refine Kd.C_drew ?_))); (case side4 => exact (Kd.N_reads' HO280.out).2.1); rintro e w' ⟨rfl, ⟨nd, rfl⟩⟩))
                                    go_meet
                                    case rel => exact ⟨_, ((t283 != t267)), (by first | rfl | (simp; done) | (simp [*]; done)), H', ⟨by have := HJ7.out; have := HJ16.out; have := HJ35.out; first | omega | exact Nat.le_refl _⟩, ⟨by (with_reducible repeat (first | apply Kd.R_alloc | apply Kd.R_drewN | apply Kd.R_drew)); exact Kd.R_mono HO269.out (fun _ hk => trivial)⟩, ⟨by (with_reducible repeat (first | apply Kd.N_alloc | apply Kd.N_drewN | apply Kd.N_drew)); exact Kd.N_mono HO277.out (fun _ hk => hk.1.1)⟩, ⟨by repeat (first | (with_reducible first | exact HB.out | apply below_alloc | apply pw_below_drewN | apply below_drew1) | exact HB.out)⟩⟩
                                · as_aux_lemma =>
                                  rw [if_neg c67] at H
                                  have c67b0 : (t282 == t284) = false := beq_eq_false_iff_ne.mpr c67
                                  have c67b1 : (t282 != t284) = true := bne_iff_ne.mpr c67
                                  have H' := Aside0.mk H
                                  clear H
                                  obtain ⟨Ao77, co77, eo77⟩ := Kd.R_slice HO269.out
                                  subst eo77
                                  obtain ⟨Ao78, co78, eo78⟩ := Kd.R_slice HO273.out
                                  subst eo78
                                  go_wp2_with (first | (go_at_call 48; (with_reducible refine (laws_uSame.calls kj35 _ _ t266 _ _ t270 true _ ?side1 ?side2 ?side3 ?side4 A55.out).mono ?_); (case side1 => repeat (first | exact (Kd.R_reads' HO269.out).2.2 | (with_reducible refine Kd.C_alloc ?_ _) | (with_reducible refine Kd.C_drewN ?_ _) | (with_reducible refine Kd.C_drew ?_))); (case side2 => exact (Kd.R_reads' HO269.out).2.1); (case side3 => repeat (first | exact (Kd.R_reads' HO273.out).2.2 | (with_reducible refine Kd.C_alloc ?_ _) | (with_reducible refine Kd.C_drewN ?_ _) | (with_reducible refine Kd.C_drew ?_))); (case side4 => exact (Kd.R_reads' HO273.out).2.1); rintro e w' ⟨rfl, ⟨nd, rfl⟩⟩; obtain ⟨Ao79, co79, eo79⟩ := Kd.N_slice HO277.out; subst eo79; obtain ⟨Ao80, co80, eo80⟩ := Kd.N_slice HO280.out; subst eo80) | (go_at_call 55; (with_reducible refine (laws_uSameRows.calls kj35 _ _ t274 _ _ t278 true _ ?side1 ?side2 ?side3 ?side4 A60.out).mono ?_); (case side1 => repeat (first | exact (Kd.N_reads' HO277.out).2.2 | (with_reducible refine Kd.C_alloc ?_ _) | (with_reducible refine Kd.C_drewN ?_ _) | (with_reducible refine Kd.C_drew ?_))); (case side2 => exact (Kd.N_reads' HO277.out).2.1); (case side3 => repeat (first | exact (Kd.N_reads' HO280.out).2.2 | (with_reducible refine Kd.C_alloc ?_ _) | (with_reducible refine Kd.C_drewN ?_ _) | (with_reducible refine Kd.C_drew ?_))); (case side4 => exact (Kd.N_reads' HO280.out).2.1); rintro e w' ⟨rfl, ⟨nd, rfl⟩⟩))
                                  go_meet
                                  case rel => exact ⟨_, (true), (by first | rfl | (simp; done) | (simp [*]; done)), H', ⟨by have := HJ7.out; have := HJ16.out; have := HJ35.out; first | omega | exact Nat.le_refl _⟩, ⟨by (with_reducible repeat (first | apply Kd.R_alloc | apply Kd.R_drewN | apply Kd.R_drew)); exact Kd.R_mono HO269.out (fun _ hk => trivial)⟩, ⟨by (with_reducible repeat (first | apply Kd.N_alloc | apply Kd.N_drewN | apply Kd.N_drew)); exact Kd.N_mono HO277.out (fun _ hk => hk.1.1)⟩, ⟨by repeat (first | (with_reducible first | exact HB.out | apply below_alloc | apply pw_below_drewN | apply below_drew1) | exact HB.out)⟩⟩
                            · replace c61 := Bool.eq_false_iff.mpr c61
                              subst c61
                              have H1 : (laws_FnSquaresAreCut.j3 kj35 t265 t266 t267 t274 t282 true) = some r := by rw [if_neg (show ¬ (false = true) by decide)] at H; exact H
                              clear H
                              have H := H1
                              clear H1
                              have H' := Aside0.mk H
                              clear H
                              obtain ⟨Ao81, co81, eo81⟩ := Kd.R_slice HO269.out
                              subst eo81
                              obtain ⟨Ao82, co82, eo82⟩ := Kd.R_slice HO273.out
                              subst eo82
                              go_wp2_with (first | (go_at_call 48; (with_reducible refine (laws_uSame.calls kj35 _ _ t266 _ _ t270 true _ ?side1 ?side2 ?side3 ?side4 A55.out).mono ?_); (case side1 => repeat (first | exact (Kd.R_reads' HO269.out).2.2 | (with_reducible refine Kd.C_alloc ?_ _) | (with_reducible refine Kd.C_drewN ?_ _) | (with_reducible refine Kd.C_drew ?_))); (case side2 => exact (Kd.R_reads' HO269.out).2.1); (case side3 => repeat (first | exact (Kd.R_reads' HO273.out).2.2 | (with_reducible refine Kd.C_alloc ?_ _) | (with_reducible refine Kd.C_drewN ?_ _) | (with_reducible refine Kd.C_drew ?_))); (case side4 => exact (Kd.R_reads' HO273.out).2.1); rintro e w' ⟨rfl, ⟨nd, rfl⟩⟩; obtain ⟨Ao83, co83, eo83⟩ := Kd.N_slice HO277.out; subst eo83; obtain ⟨Ao84, co84, eo84⟩ := Kd.N_slice HO280.out; subst eo84) | (go_at_call 55; (with_reducible refine (laws_uSameRows.calls kj35 _ _ t274 _ _ t278 false _ ?side1 ?side2 ?side3 ?side4 A60.out).mono ?_); (case side1 => repeat (first | exact (Kd.N_reads' HO277.out).2.2 | (with_reducible refine Kd.C_alloc ?_ _) | (with_reducible refine Kd.C_drewN ?_ _) | (with_reducible refine Kd.C_drew ?_))); (case side2 => exact (Kd.N_reads' HO277.out).2.1); (case side3 => repeat (first | exact (Kd.N_reads' HO280.out).2.2 | (with_reducible refine Kd.C_alloc ?_ _) | (with_reducible refine Kd.C_drewN ?_ _) | (with_reducible refine Kd.C_drew ?_))); (case side4 => exact (Kd.N_reads' HO280.out).2.1); rintro e w' ⟨rfl, ⟨nd, rfl⟩⟩))
                              go_meet
                              case rel => exact ⟨_, (true), (by first | rfl | (simp; done) | (simp [*]; done)), H', ⟨by have := HJ7.out; have := HJ16.out; have := HJ35.out; first | omega | exact Nat.le_refl _⟩, ⟨by (with_reducible repeat (first | apply Kd.R_alloc | apply Kd.R_drewN | apply Kd.R_drew)); exact Kd.R_mono HO269.out (fun _ hk => trivial)⟩, ⟨by (with_reducible repeat (first | apply Kd.N_alloc | apply Kd.N_drewN | apply Kd.N_drew)); exact Kd.N_mono HO277.out (fun _ hk => hk.1.1)⟩, ⟨by repeat (first | (with_reducible first | exact HB.out | apply below_alloc | apply pw_below_drewN | apply below_drew1) | exact HB.out)⟩⟩
                        · replace c56 := Bool.eq_false_iff.mpr c56
                          subst c56
                          have H1 : (laws_FnSquaresAreCut.j3 kj35 t265 t266 t267 t274 t282 true) = some r := by rw [if_neg (show ¬ (false = true) by decide)] at H; exact H
                          clear H
                          have H := H1
                          clear H1
                          have H' := Aside0.mk H
                          clear H
                          obtain ⟨Ao85, co85, eo85⟩ := Kd.R_slice HO269.out
                          subst eo85
                          obtain ⟨Ao86, co86, eo86⟩ := Kd.R_slice HO273.out
                          subst eo86
                          go_wp2_with (first | (go_at_call 48; (with_reducible refine (laws_uSame.calls kj35 _ _ t266 _ _ t270 false _ ?side1 ?side2 ?side3 ?side4 A55.out).mono ?_); (case side1 => repeat (first | exact (Kd.R_reads' HO269.out).2.2 | (with_reducible refine Kd.C_alloc ?_ _) | (with_reducible refine Kd.C_drewN ?_ _) | (with_reducible refine Kd.C_drew ?_))); (case side2 => exact (Kd.R_reads' HO269.out).2.1); (case side3 => repeat (first | exact (Kd.R_reads' HO273.out).2.2 | (with_reducible refine Kd.C_alloc ?_ _) | (with_reducible refine Kd.C_drewN ?_ _) | (with_reducible refine Kd.C_drew ?_))); (case side4 => exact (Kd.R_reads' HO273.out).2.1); rintro e w' ⟨rfl, ⟨nd, rfl⟩⟩))
                          go_meet
                          case rel => exact ⟨_, (true), (by first | rfl | (simp; done) | (simp [*]; done)), H', ⟨by have := HJ7.out; have := HJ16.out; have := HJ35.out; first | omega | exact Nat.le_refl _⟩, ⟨by (with_reducible repeat (first | apply Kd.R_alloc | apply Kd.R_drewN | apply Kd.R_drew)); exact Kd.R_mono HO269.out (fun _ hk => trivial)⟩, ⟨by (with_reducible repeat (first | apply Kd.N_alloc | apply Kd.N_drewN | apply Kd.N_drew)); exact Kd.N_mono HO277.out (fun _ hk => hk.1.1)⟩, ⟨by repeat (first | (with_reducible first | exact HB.out | apply below_alloc | apply pw_below_drewN | apply below_drew1) | exact HB.out)⟩⟩
                    case rest =>
                      clear HC48
                      try clear c1
                      try clear c2
                      try clear p2
                      try clear q2
                      try clear hx2
                      try clear qi2
                      try clear c3
                      try clear c4
                      try clear c5
                      try clear c6
                      try clear c12
                      try clear c12b0
                      try clear c12b1
                      try clear c12b2
                      try clear c13
                      try clear c16
                      try clear c18
                      try clear c19
                      try clear c19b0
                      try clear c19b1
                      try clear c20
                      try clear c20b0
                      try clear c20b1
                      try clear c22
                      try clear c23
                      try clear c23b0
                      try clear c23b1
                      try clear p25
                      try clear q25
                      try clear hx25
                      try clear qi25
                      try clear c32
                      try clear c33
                      try clear c39
                      try clear c39b0
                      try clear c39b1
                      try clear c39b2
                      try clear c40
                      try clear c49
                      try clear c50
                      try clear c51
                      try clear c52
                      try clear c53
                      try clear c54
                      try clear c54b0
                      try clear c54b1
                      try clear c54b2
                      try clear c56
                      try clear c57
                      try clear c57b0
                      try clear c57b1
                      try clear c57b2
                      try clear c61
                      try clear c62
                      try clear c62b0
                      try clear c62b1
                      try clear c62b2
                      try clear c67
                      try clear c67b0
                      try clear c67b1
                      try clear c68
                      try clear c68b0
                      try clear c68b1
                      try clear c68b2
                      try clear hx254_0
                      try clear hx255_0
                      try clear p2
                      try clear p25
                      try clear p254
                      try clear p255
                      try clear q2
                      try clear q25
                      try clear q254
                      try clear q255
                      obtain ⟨kq, x183_47, rfl, HA, HJ47, HO_21, HO_25, HB⟩ := hcut
                      cases kq with
                      | zero => exact absurd HA.out (by simp [laws_FnSquaresAreCut.j3])
                      | succ kj47 =>
                        have H := HA.out
                        clear HA
                        simp only [laws_FnSquaresAreCut.j3] at H
                        by_cases c87 : x183_47 = true
                        · subst c87
                          have H1 : (some false) = some r := by rw [if_pos rfl] at H; exact H
                          clear H
                          have H := H1
                          clear H1
                          obtain rfl := Option.some.inj H
                          go_wp2
                          go_ret
                          exact ⟨by first | rfl | (simp [errW_none, errW_some] <;> rfl) | (simp [*, errW_none, errW_some] <;> rfl), by repeat (first | (with_reducible first | exact HB.out | apply below_alloc | apply pw_below_drewN | apply below_drew1) | exact HB.out)⟩
                        · replace c87 := Bool.eq_false_iff.mpr c87
                          subst c87
                          have H1 : (if t267 = true then (if (t266.length : Int) = (wrap64 (8 * t265)) then (if (t274.length : Int) = (wrap64 ((wrap64 (8 * t265)) * t265)) then (laws_FnSquaresAreCut.j4 kj47 t265 t266 t274 t282 (t282 != (wrap64 ((wrap64 ((wrap64 (2 * t265)) + 1)) * (wrap64 ((wrap64 (2 * t265)) + 1)))))) else (laws_FnSquaresAreCut.j4 kj47 t265 t266 t274 t282 true)) else (laws_FnSquaresAreCut.j4 kj47 t265 t266 t274 t282 true)) else (some true)) = some r := by rw [if_neg (show ¬ (false = true) by decide)] at H; exact H
                          clear H
                          have H := H1
                          clear H1
                          by_cases c88 : t267 = true
                          · subst c88
                            have H1 : (if (t266.length : Int) = (wrap64 (8 * t265)) then (if (t274.length : Int) = (wrap64 ((wrap64 (8 * t265)) * t265)) then (laws_FnSquaresAreCut.j4 kj47 t265 t266 t274 t282 (t282 != (wrap64 ((wrap64 ((wrap64 (2 * t265)) + 1)) * (wrap64 ((wrap64 (2 * t265)) + 1)))))) else (laws_FnSquaresAreCut.j4 kj47 t265 t266 t274 t282 true)) else (laws_FnSquaresAreCut.j4 kj47 t265 t266 t274 t282 true)) = some r := by rw [if_pos rfl] at H; exact H
                            clear H
                            have H := H1
                            clear H1
                            have HC89 := Aside0.mk H
                            clear H
                            go_upto_region 28 with (fail)
                            go_cut [210] (fun v210 wc => ∃ (kq : Nat) (x210_88 : Bool), v210 = .bool x210_88 ∧ Aside0 (laws_FnSquaresAreCut.j4 kq t265 t266 t274 t282 x210_88 = some r) ∧ Aside0 (kq ≤ kj47) ∧ Aside0 (Kd.R (Kd.int .i64) 3 wc w.heap.size (fun _ => True) v268 t266) ∧ Aside0 (Kd.N (Kd.slice 3 (Kd.int .i64)) 32 wc w.heap.size (fun k_ => some k_ ≠ (v268 : Value).ownBlock) v276 t274) ∧ Aside0 (Below w.heap.size w wc))
                            case first =>
                              have H := HC89.out
                              clear HC89
                              by_cases c90 : (t266.length : Int) = (wrap64 (8 * t265))
                              · as_aux_lemma =>
                                rw [if_pos c90] at H
                                have c90b0 : ((t266.length : Int) == (wrap64 (8 * t265))) = true := beq_iff_eq.mpr c90
                                have c90b1 : ((t266.length : Int) != (wrap64 (8 * t265))) = false := bne_eq_false_iff_eq.mpr c90
                                clear c90
                                (first | rw [c90b0] | (simp only [i64_w, i32_w]; rw [c90b0]) | skip)
                                by_cases c91 : (t274.length : Int) = (wrap64 ((wrap64 (8 * t265)) * t265))
                                · as_aux_lemma =>
                                  rw [if_pos c91] at H
                                  have c91b0 : ((t274.length : Int) == (wrap64 ((wrap64 (8 * t265)) * t265))) = true := beq_iff_eq.mpr c91
                                  have c91b1 : ((t274.length : Int) != (wrap64 ((wrap64 (8 * t265)) * t265))) = false := bne_eq_false_iff_eq.mpr c91
                                  clear c91
                                  have H' := Aside0.mk H
                                  clear H
                                  obtain ⟨Ao92, co92, eo92⟩ := Kd.R_slice HO_21.out
                                  subst eo92
                                  obtain ⟨Ao93, co93, eo93⟩ := Kd.N_slice HO_25.out
                                  subst eo93
                                  go_wp2
                                  go_meet
                                  case rel => exact ⟨_, ((t282 != (wrap64 ((wrap64 ((wrap64 (2 * t265)) + 1)) * (wrap64 ((wrap64 (2 * t265)) + 1)))))), (by first | rfl | (simp; done) | (simp [*]; done)), H', ⟨by have := HJ7.out; have := HJ16.out; have := HJ35.out; have := HJ47.out; first | omega | exact Nat.le_refl _⟩, ⟨by (with_reducible repeat (first | apply Kd.R_alloc | apply Kd.R_drewN | apply Kd.R_drew)); exact HO_21.out⟩, ⟨by (with_reducible repeat (first | apply Kd.N_alloc | apply Kd.N_drewN | apply Kd.N_drew)); exact HO_25.out⟩, ⟨by repeat (first | (with_reducible first | exact HB.out | apply below_alloc | apply pw_below_drewN | apply below_drew1) | exact HB.out)⟩⟩
                                · as_aux_lemma =>
                                  rw [if_neg c91] at H
                                  have c91b0 : ((t274.length : Int) == (wrap64 ((wrap64 (8 * t265)) * t265))) = false := beq_eq_false_iff_ne.mpr c91
                                  have c91b1 : ((t274.length : Int) != (wrap64 ((wrap64 (8 * t265)) * t265))) = true := bne_iff_ne.mpr c91
                                  have H' := Aside0.mk H
                                  clear H
                                  obtain ⟨Ao94, co94, eo94⟩ := Kd.R_slice HO_21.out
                                  subst eo94
                                  obtain ⟨Ao95, co95, eo95⟩ := Kd.N_slice HO_25.out
                                  subst eo95
                                  go_wp2
                                  go_meet
                                  case rel => exact ⟨_, (true), (by first | rfl | (simp; done) | (simp [*]; done)), H', ⟨by have := HJ7.out; have := HJ16.out; have := HJ35.out; have := HJ47.out; first | omega | exact Nat.le_refl _⟩, ⟨by (with_reducible repeat (first | apply Kd.R_alloc | apply Kd.R_drewN | apply Kd.R_drew)); exact HO_21.out⟩, ⟨by (with_reducible repeat (first | apply Kd.N_alloc | apply Kd.N_drewN | apply Kd.N_drew)); exact HO_25.out⟩, ⟨by repeat (first | (with_reducible first | exact HB.out | apply below_alloc | apply pw_below_drewN | apply below_drew1) | exact HB.out)⟩⟩
                              · as_aux_lemma =>
                                rw [if_neg c90] at H
                                have c90b0 : ((t266.length : Int) == (wrap64 (8 * t265))) = false := beq_eq_false_iff_ne.mpr c90
                                have c90b1 : ((t266.length : Int) != (wrap64 (8 * t265))) = true := bne_iff_ne.mpr c90
                                (first | rw [c90b0] | (simp only [i64_w, i32_w]; rw [c90b0]) | skip)
                                have H' := Aside0.mk H
                                clear H
                                obtain ⟨Ao96, co96, eo96⟩ := Kd.R_slice HO_21.out
                                subst eo96
                                go_wp2
                                go_meet
                                case rel => exact ⟨_, (true), (by first | rfl | (simp; done) | (simp [*]; done)), H', ⟨by have := HJ7.out; have := HJ16.out; have := HJ35.out; have := HJ47.out; first | omega | exact Nat.le_refl _⟩, ⟨by (with_reducible repeat (first | apply Kd.R_alloc | apply Kd.R_drewN | apply Kd.R_drew)); exact HO_21.out⟩, ⟨by (with_reducible repeat (first | apply Kd.N_alloc | apply Kd.N_drewN | apply Kd.N_drew)); exact HO_25.out⟩, ⟨by repeat (first | (with_reducible first | exact HB.out | apply below_alloc | apply pw_below_drewN | apply below_drew1) | exact HB.out)⟩⟩
                            case rest =>
                              clear HC89
                              try clear c1
                              try clear c2
                              try clear p2
                              try clear q2
                              try clear hx2
                              try clear qi2
                              try clear c3
                              try clear c4
                              try clear c5
                              try clear c6
                              try clear p6
                              try clear c8
                              try clear c9
                              try clear c12
                              try clear c12b0
                              try clear c12b1
                              try clear c12b2
                              try clear c13
                              try clear c16
                              try clear c18
                              try clear c19
                              try clear c19b0
                              try clear c19b1
                              try clear c20
                              try clear c20b0
                              try clear c20b1
                              try clear c22
                              try clear c23
                              try clear c23b0
                              try clear c23b1
                              try clear p25
                              try clear q25
                              try clear hx25
                              try clear qi25
                              try clear c32
                              try clear c33
                              try clear c39
                              try clear c39b0
                              try clear c39b1
                              try clear c39b2
                              try clear c40
                              try clear c49
                              try clear c50
                              try clear c51
                              try clear c52
                              try clear c53
                              try clear c54
                              try clear c54b0
                              try clear c54b1
                              try clear c54b2
                              try clear c56
                              try clear c57
                              try clear c57b0
                              try clear c57b1
                              try clear c57b2
                              try clear c61
                              try clear c62
                              try clear c62b0
                              try clear c62b1
                              try clear c62b2
                              try clear p64
                              try clear c67
                              try clear c67b0
                              try clear c67b1
                              try clear c68
                              try clear c68b0
                              try clear c68b1
                              try clear c68b2
                              try clear c87
                              try clear c88
                              try clear c90
                              try clear c90b0
                              try clear c90b1
                              try clear c91
                              try clear c91b0
                              try clear c91b1
                              try clear hx254_0
                              try clear hx255_0
                              try clear p2
                              try clear p25
                              try clear p254
                              try clear p255
                              try clear q2
                              try clear q25
                              try clear q254
                              try clear q255
                              obtain ⟨kq, x210_88, rfl, HA, HJ88, HO_21, HO_25, HB⟩ := hcut
                              cases kq with
                              | zero => exact absurd HA.out (by simp [laws_FnSquaresAreCut.j4])
                              | succ kj88 =>
                                have H := HA.out
                                clear HA
                                simp only [laws_FnSquaresAreCut.j4] at H
                                by_cases c97 : x210_88 = true
                                · subst c97
                                  have H1 : (some false) = some r := by rw [if_pos rfl] at H; exact H
                                  clear H
                                  have H := H1
                                  clear H1
                                  obtain rfl := Option.some.inj H
                                  go_wp2
                                  go_ret
                                  exact ⟨by first | rfl | (simp [errW_none, errW_some] <;> rfl) | (simp [*, errW_none, errW_some] <;> rfl), by repeat (first | (with_reducible first | exact HB.out | apply below_alloc | apply pw_below_drewN | apply below_drew1) | exact HB.out)⟩
                                · replace c97 := Bool.eq_false_iff.mpr c97
                                  subst c97
                                  have H1 : (laws_FnSquaresAreCut.l0 kj88 t265 t266 t274 t282 t266 (t266.length : Int) 0) = some r := by rw [if_neg (show ¬ (false = true) by decide)] at H; exact H
                                  clear H
                                  have H := H1
                                  clear H1
                                  have H' := Aside0.mk H
                                  clear H
                                  obtain ⟨Ao98, co98, eo98⟩ := Kd.R_slice HO_21.out
                                  subst eo98
                                  go_wp2
                                  go_loopg [213] kj88 (fun kq v213 w' => ∃ (x213_6 : Int), v213 = .int .i64 x213_6 ∧ Aside0 (laws_FnSquaresAreCut.l0 kq t265 t266 t274 t282 t266 (t266.length : Int) x213_6 = some r) ∧ Aside0 (kq ≤ kj88) ∧ Aside0 (Kd.R (Kd.int .i64) 3 w' w.heap.size (fun _ => True) (.slice Ao98 t266.length co98) t266) ∧ Aside0 (Kd.N (Kd.slice 3 (Kd.int .i64)) 32 w' w.heap.size (fun k_ => some k_ ≠ ((.slice Ao98 t266.length co98) : Value).ownBlock ∧ some k_ ≠ ((.slice Ao98 t266.length co98) : Value).ownBlock) v276 t274) ∧ Aside0 (Kd.R (Kd.int .i64) 3 w' w.heap.size (fun _ => True) (.slice Ao98 t266.length co98) t266) ∧ Aside0 (Below w.heap.size w w'))
                                  case atStart => exact ⟨(0), (by first | rfl | (simp; done) | (simp [*]; done)), H', ⟨Nat.le_refl _⟩, ⟨by (with_reducible repeat (first | apply Kd.R_alloc | apply Kd.R_drewN | apply Kd.R_drew)); exact HO_21.out⟩, ⟨by (with_reducible repeat (first | apply Kd.N_alloc | apply Kd.N_drewN | apply Kd.N_drew)); exact Kd.N_mono HO_25.out (fun _ hk => ⟨hk, hk⟩)⟩, ⟨by (with_reducible repeat (first | apply Kd.R_alloc | apply Kd.R_drewN | apply Kd.R_drew)); exact HO_21.out⟩, ⟨by repeat (first | (with_reducible first | exact HB.out | apply below_alloc | apply pw_below_drewN | apply below_drew1) | exact HB.out)⟩⟩
                                  case round =>
                                    clear H'
                                    try clear c1
                                    try clear c2
                                    try clear p2
                                    try clear q2
                                    try clear hx2
                                    try clear qi2
                                    try clear c3
                                    try clear c4
                                    try clear c5
                                    try clear c6
                                    try clear p6
                                    try clear c8
                                    try clear c9
                                    try clear c12
                                    try clear c12b0
                                    try clear c12b1
                                    try clear c12b2
                                    try clear c13
                                    try clear c16
                                    try clear c18
                                    try clear c19
                                    try clear c19b0
                                    try clear c19b1
                                    try clear c20
                                    try clear c20b0
                                    try clear c20b1
                                    try clear c22
                                    try clear c23
                                    try clear c23b0
                                    try clear c23b1
                                    try clear p25
                                    try clear q25
                                    try clear hx25
                                    try clear qi25
                                    try clear c32
                                    try clear c33
                                    try clear c39
                                    try clear c39b0
                                    try clear c39b1
                                    try clear c39b2
                                    try clear c40
                                    try clear c49
                                    try clear c50
                                    try clear c51
                                    try clear c52
                                    try clear c53
                                    try clear c54
                                    try clear c54b0
                                    try clear c54b1
                                    try clear c54b2
                                    try clear c56
                                    try clear c57
                                    try clear c57b0
                                    try clear c57b1
                                    try clear c57b2
                                    try clear c61
                                    try clear c62
                                    try clear c62b0
                                    try clear c62b1
                                    try clear c62b2
                                    try clear p64
                                    try clear c67
                                    try clear c67b0
                                    try clear c67b1
                                    try clear c68
                                    try clear c68b0
                                    try clear c68b1
                                    try clear c68b2
                                    try clear c87
                                    try clear c88
                                    try clear c90
                                    try clear c90b0
                                    try clear c90b1
                                    try clear c91
                                    try clear c91b0
                                    try clear c91b1
                                    try clear c97
                                    try clear hx254_0
                                    try clear hx255_0
                                    try clear p2
                                    try clear p25
                                    try clear p254
                                    try clear p255
                                    try clear p6
                                    try clear p64
                                    try clear q2
                                    try clear q25
                                    try clear q254
                                    try clear q255
                                    obtain ⟨x213_6, rfl, HA, HK6, HO_21, HO_25, HO_211, HB⟩ := hrel
                                    cases gk with
                                    | zero => exact absurd HA.out (by simp [laws_FnSquaresAreCut.l0])
                                    | succ k6 =>
                                      have H := HA.out
                                      clear HA
                                      simp only [laws_FnSquaresAreCut.l0] at H
                                      by_cases c99 : x213_6 < (t266.length : Int)
                                      · as_aux_lemma =>
                                        rw [if_pos c99] at H
                                        have c99b0 : decide (x213_6 < (t266.length : Int)) = true := decide_eq_true c99
                                        clear c99
                                        by_cases c100 : 0 ≤ x213_6
                                        · as_aux_lemma =>
                                          rw [if_pos c100] at H
                                          have c100b0 : decide (0 ≤ x213_6) = true := decide_eq_true c100
                                          clear c100
                                          by_cases c101 : x213_6 < (t266.length : Int)
                                          · as_aux_lemma =>
                                            rw [if_pos c101] at H
                                            have c101b0 : decide (x213_6 < (t266.length : Int)) = true := decide_eq_true c101
                                            clear c101
                                            by_cases c102 : (t266.length : Int) = 0
                                            · as_aux_lemma =>
                                              rw [if_pos c102] at H
                                              exact absurd H (by simp)
                                            · as_aux_lemma =>
                                              rw [if_neg c102] at H
                                              have c102b0 : ((t266.length : Int) == 0) = false := beq_eq_false_iff_ne.mpr c102
                                              have c102b1 : ((t266.length : Int) != 0) = true := bne_iff_ne.mpr c102
                                              have c102b2 : ¬ (t266 = []) := fun h_ => c102 (by rw [h_]; rfl)
                                              obtain ⟨ji103, hji103⟩ : ∃ j_ : Int, (Int.tmod (wrap64 (x213_6 + (wrap64 (4 * t265)))) (t266.length : Int)) = j_ := ⟨_, rfl⟩
                                              replace H : (if 0 ≤ (ji103) then (if (ji103) < (t266.length : Int) then (if (rd t266 (ji103)) = (wrap64 ((wrap64 (t282 - 1)) - (rd t266 x213_6))) then (laws_FnSquaresAreCut.l0 k6 t265 t266 t274 t282 t266 (t266.length : Int) (wrap64 (x213_6 + 1))) else (some false)) else (none)) else (none)) = some r := by first | (rw [hji103] at H; exact H) | (simp only [hji103] at H ⊢; exact H)
                                              by_cases c104 : 0 ≤ (ji103)
                                              · as_aux_lemma =>
                                                rw [if_pos c104] at H
                                                have c104b0 : decide (0 ≤ (ji103)) = true := decide_eq_true c104
                                                clear c104
                                                by_cases c105 : (ji103) < (t266.length : Int)
                                                · as_aux_lemma =>
                                                  rw [if_pos c105] at H
                                                  have c105b0 : decide ((ji103) < (t266.length : Int)) = true := decide_eq_true c105
                                                  clear c105
                                                  by_cases c106 : (rd t266 (ji103)) = (wrap64 ((wrap64 (t282 - 1)) - (rd t266 x213_6)))
                                                  · as_aux_lemma =>
                                                    rw [if_pos c106] at H
                                                    have c106b0 : ((rd t266 (ji103)) == (wrap64 ((wrap64 (t282 - 1)) - (rd t266 x213_6)))) = true := beq_iff_eq.mpr c106
                                                    have c106b1 : ((rd t266 (ji103)) != (wrap64 ((wrap64 (t282 - 1)) - (rd t266 x213_6)))) = false := bne_eq_false_iff_eq.mpr c106
                                                    clear c106
                                                    have H' := Aside0.mk H
                                                    clear H
                                                    have p288 : 0 ≤ (x213_6 : Int) := of_decide_eq_true (by first | (with_reducible assumption) | assumption)
                                                    have q288 : x213_6 < (t266.length : Int) := of_decide_eq_true (by first | (with_reducible assumption) | assumption)
                                                    obtain ⟨ad288, e288, hx288_0⟩ := Kd.at_int (Kd.R_reads' HO_211.out).2.2 x213_6 p288 q288
                                                    cases e288
                                                    replace p288 := eq_true p288
                                                    replace q288 := eq_true q288
                                                    have p289 : 0 ≤ ((ji103) : Int) := of_decide_eq_true (by first | (with_reducible assumption) | assumption)
                                                    have q289 : (ji103) < (t266.length : Int) := of_decide_eq_true (by first | (with_reducible assumption) | assumption)
                                                    obtain ⟨ad289, e289, hx289_0⟩ := Kd.at_int (Kd.R_reads' HO_21.out).2.2 (ji103) p289 q289
                                                    obtain rfl : ad288 = ad289 := (by injection e289)
                                                    replace p289 := eq_true p289
                                                    replace q289 := eq_true q289
                                                    go_wp2
                                                    go_roundg k6
                                                    case measure => have := HJ7.out; have := HJ16.out; have := HJ35.out; have := HJ47.out; have := HJ88.out; have := HK6.out; omega
                                                    case rel => exact ⟨(wrap64 (x213_6 + 1)), (by first | rfl | (simp; done) | (simp [*]; done)), H', ⟨by have := HJ7.out; have := HJ16.out; have := HJ35.out; have := HJ47.out; have := HJ88.out; have := HK6.out; omega⟩, ⟨by (with_reducible repeat (first | apply Kd.R_alloc | apply Kd.R_drewN | apply Kd.R_drew)); exact HO_21.out⟩, ⟨by (with_reducible repeat (first | apply Kd.N_alloc | apply Kd.N_drewN | apply Kd.N_drew)); exact HO_25.out⟩, ⟨by (with_reducible repeat (first | apply Kd.R_alloc | apply Kd.R_drewN | apply Kd.R_drew)); exact HO_211.out⟩, ⟨by repeat (first | (with_reducible first | exact HB.out | apply below_alloc | apply pw_below_drewN | apply below_drew1) | exact HB.out)⟩⟩
                                                  · as_aux_lemma =>
                                                    rw [if_neg c106] at H
                                                    have c106b0 : ((rd t266 (ji103)) == (wrap64 ((wrap64 (t282 - 1)) - (rd t266 x213_6)))) = false := beq_eq_false_iff_ne.mpr c106
                                                    have c106b1 : ((rd t266 (ji103)) != (wrap64 ((wrap64 (t282 - 1)) - (rd t266 x213_6)))) = true := bne_iff_ne.mpr c106
                                                    obtain rfl := Option.some.inj H
                                                    have p288 : 0 ≤ (x213_6 : Int) := of_decide_eq_true (by first | (with_reducible assumption) | assumption)
                                                    have q288 : x213_6 < (t266.length : Int) := of_decide_eq_true (by first | (with_reducible assumption) | assumption)
                                                    obtain ⟨ad288, e288, hx288_0⟩ := Kd.at_int (Kd.R_reads' HO_211.out).2.2 x213_6 p288 q288
                                                    cases e288
                                                    replace p288 := eq_true p288
                                                    replace q288 := eq_true q288
                                                    have p289 : 0 ≤ ((ji103) : Int) := of_decide_eq_true (by first | (with_reducible assumption) | assumption)
                                                    have q289 : (ji103) < (t266.length : Int) := of_decide_eq_true (by first | (with_reducible assumption) | assumption)
                                                    obtain ⟨ad289, e289, hx289_0⟩ := Kd.at_int (Kd.R_reads' HO_21.out).2.2 (ji103) p289 q289
                                                    obtain rfl : ad288 = ad289 := (by injection e289)
                                                    replace p289 := eq_true p289
                                                    replace q289 := eq_true q289
                                                    go_wp2
                                                    go_ret
                                                    exact ⟨by first | rfl | (simp [errW_none, errW_some] <;> rfl) | (simp only [← hji103]; first | rfl | (simp [errW_none, errW_some] <;> rfl)) | (simp [*, errW_none, errW_some] <;> rfl), by repeat (first | (with_reducible first | exact HB.out | apply below_alloc | apply pw_below_drewN | apply below_drew1) | exact HB.out)⟩
                                                · as_aux_lemma =>
                                                  rw [if_neg c105] at H
                                                  exact absurd H (by simp)
                                              · as_aux_lemma =>
                                                rw [if_neg c104] at H
                                                exact absurd H (by simp)
                                          · as_aux_lemma =>
                                            rw [if_neg c101] at H
                                            exact absurd H (by simp)
                                        · as_aux_lemma =>
                                          rw [if_neg c100] at H
                                          exact absurd H (by simp)
                                      · as_aux_lemma =>
                                        rw [if_neg c99] at H
                                        have c99b0 : decide (x213_6 < (t266.length : Int)) = false := decide_eq_false c99
                                        clear c99
                                        have H' := Aside0.mk H
                                        clear H
                                        go_wp2
                                        go_loopg [35] k6 (fun kq v35 w' => ∃ (x35_7 : Int), v35 = .int .i64 x35_7 ∧ Aside0 (laws_FnSquaresAreCut.l1 kq t274 x35_7 = some r) ∧ Aside0 (kq ≤ k6) ∧ Aside0 (Kd.N (Kd.slice 3 (Kd.int .i64)) 32 w' w.heap.size (fun _ => True) v276 t274) ∧ Aside0 (Below w.heap.size w w'))
                                        case atStart => exact ⟨(1), (by first | rfl | (simp; done) | (simp [*]; done)), H', ⟨Nat.le_refl _⟩, ⟨by (with_reducible repeat (first | apply Kd.N_alloc | apply Kd.N_drewN | apply Kd.N_drew)); exact Kd.N_mono HO_25.out (fun _ hk => trivial)⟩, ⟨by repeat (first | (with_reducible first | exact HB.out | apply below_alloc | apply pw_below_drewN | apply below_drew1) | exact HB.out)⟩⟩
                                        case round =>
                                          clear H'
                                          try clear c1
                                          try clear c2
                                          try clear p2
                                          try clear q2
                                          try clear hx2
                                          try clear qi2
                                          try clear c3
                                          try clear c4
                                          try clear c5
                                          try clear c6
                                          try clear p6
                                          try clear c8
                                          try clear c9
                                          try clear c10
                                          try clear c12
                                          try clear c12b0
                                          try clear c12b1
                                          try clear c12b2
                                          try clear c13
                                          try clear c16
                                          try clear c18
                                          try clear c19
                                          try clear c19b0
                                          try clear c19b1
                                          try clear c20
                                          try clear c20b0
                                          try clear c20b1
                                          try clear c22
                                          try clear c23
                                          try clear c23b0
                                          try clear c23b1
                                          try clear p25
                                          try clear q25
                                          try clear hx25
                                          try clear qi25
                                          try clear p28
                                          try clear q28
                                          try clear hx28
                                          try clear c32
                                          try clear c33
                                          try clear c39
                                          try clear c39b0
                                          try clear c39b1
                                          try clear c39b2
                                          try clear c40
                                          try clear c49
                                          try clear c50
                                          try clear c51
                                          try clear c52
                                          try clear c53
                                          try clear c54
                                          try clear c54b0
                                          try clear c54b1
                                          try clear c54b2
                                          try clear c56
                                          try clear c57
                                          try clear c57b0
                                          try clear c57b1
                                          try clear c57b2
                                          try clear c61
                                          try clear c62
                                          try clear c62b0
                                          try clear c62b1
                                          try clear c62b2
                                          try clear p64
                                          try clear c67
                                          try clear c67b0
                                          try clear c67b1
                                          try clear c68
                                          try clear c68b0
                                          try clear c68b1
                                          try clear c68b2
                                          try clear c87
                                          try clear c88
                                          try clear c90
                                          try clear c90b0
                                          try clear c90b1
                                          try clear c91
                                          try clear c91b0
                                          try clear c91b1
                                          try clear c97
                                          try clear c99
                                          try clear c99b0
                                          try clear c100
                                          try clear c100b0
                                          try clear c101
                                          try clear c101b0
                                          try clear c102
                                          try clear c102b0
                                          try clear c102b1
                                          try clear c102b2
                                          try clear c104
                                          try clear c104b0
                                          try clear c105
                                          try clear c105b0
                                          try clear c106
                                          try clear c106b0
                                          try clear c106b1
                                          try clear hx254_0
                                          try clear hx255_0
                                          try clear hx288_0
                                          try clear hx289_0
                                          try clear p2
                                          try clear p25
                                          try clear p254
                                          try clear p255
                                          try clear p288
                                          try clear p289
                                          try clear p6
                                          try clear p64
                                          try clear q2
                                          try clear q25
                                          try clear q254
                                          try clear q255
                                          try clear q288
                                          try clear q289
                                          obtain ⟨x35_7, rfl, HA, HK7, HO_25, HB⟩ := hrel
                                          cases gk with
                                          | zero => exact absurd HA.out (by simp [laws_FnSquaresAreCut.l1])
                                          | succ k7 =>
                                            have H := HA.out
                                            clear HA
                                            simp only [laws_FnSquaresAreCut.l1] at H
                                            by_cases c107 : x35_7 < (t274.length : Int)
                                            · as_aux_lemma =>
                                              rw [if_pos c107] at H
                                              have c107b0 : decide (x35_7 < (t274.length : Int)) = true := decide_eq_true c107
                                              clear c107
                                              obtain ⟨ji108, hji108⟩ : ∃ j_ : Int, (wrap64 (x35_7 - 1)) = j_ := ⟨_, rfl⟩
                                              replace H : (if 0 ≤ (ji108) then (if (ji108) < (t274.length : Int) then (if 0 ≤ x35_7 then ((laws_uLess.f k7 (rd_L1 t274 (ji108)) (rd_L1 t274 x35_7)).bind fun t292 => (if t292 = true then (laws_FnSquaresAreCut.l1 k7 t274 (wrap64 (x35_7 + 1))) else (some false))) else (none)) else (none)) else (none)) = some r := by first | (rw [hji108] at H; exact H) | (simp only [hji108] at H ⊢; exact H)
                                              have hji108w : (IntKind.i64.wrap (x35_7 - 1)) = ji108 := (i64_w _).trans hji108
                                              by_cases c109 : 0 ≤ (ji108)
                                              · as_aux_lemma =>
                                                rw [if_pos c109] at H
                                                have c109b0 : decide (0 ≤ (ji108)) = true := decide_eq_true c109
                                                clear c109
                                                by_cases c110 : (ji108) < (t274.length : Int)
                                                · as_aux_lemma =>
                                                  rw [if_pos c110] at H
                                                  have c110b0 : decide ((ji108) < (t274.length : Int)) = true := decide_eq_true c110
                                                  clear c110
                                                  by_cases c111 : 0 ≤ x35_7
                                                  · as_aux_lemma =>
                                                    rw [if_pos c111] at H
                                                    have c111b0 : decide (0 ≤ x35_7) = true := decide_eq_true c111
                                                    clear c111
                                                    replace H := Option.bind_eq_some_iff.mp H
                                                    obtain ⟨t292, A1120, H⟩ := H
                                                    replace H : (if t292 = true then (laws_FnSquaresAreCut.l1 k7 t274 (wrap64 (x35_7 + 1))) else (some false)) = some r := H
                                                    have A112 := Aside0.mk A1120
                                                    clear A1120
                                                    by_cases c113 : t292 = true
                                                    · subst c113
                                                      have H1 : (laws_FnSquaresAreCut.l1 k7 t274 (wrap64 (x35_7 + 1))) = some r := by rw [if_pos rfl] at H; exact H
                                                      clear H
                                                      have H := H1
                                                      clear H1
                                                      have H' := Aside0.mk H
                                                      clear H
                                                      obtain ⟨Ao114, co114, eo114⟩ := Kd.N_slice HO_25.out
                                                      subst eo114
                                                      try go_wp2
                                                      have n0_ := Aside0.mk (Kd.N_drew HO_25.out)
                                                      have n1_ := Aside0.mk (below_drew1 HB.out)
                                                      clear HO_25
                                                      clear HB
                                                      have HO_25 := n0_
                                                      have HB := n1_
                                                      clear n0_ n1_
                                                      have p290 : 0 ≤ ((ji108) : Int) := of_decide_eq_true (by first | (with_reducible assumption) | assumption)
                                                      have q290 : (ji108) < (t274.length : Int) := of_decide_eq_true (by first | (with_reducible assumption) | assumption)
                                                      obtain ⟨ad290, A290_0, c290_0, e290, hx290_0, hl290_0, hi290_0⟩ := at_L1 (Kd.N_reads' HO_25.out).2.2 (ji108) p290 q290
                                                      cases e290
                                                      obtain ⟨ce290, hce290, hMe290, hcc290⟩ := Kd.N_get HO_25.out [] (ji108) p290 (by first | exact q290 | exact of_decide_eq_true (by first | (with_reducible assumption) | assumption) | (have e_ := (Kd.N_reads' HO_25.out).1; omega))
                                                      obtain ⟨ua290_0, uc290_0, rfl, ul290_0, ge290_0⟩ := Kd.FK_slice_open hMe290
                                                      have hv290_0 := hcc290 0 _ rfl
                                                      rw [Nat.add_zero, show ((Kd.slice 3 (Kd.int .i64))).sz = 1 from rfl, Nat.mul_one] at hv290_0
                                                      replace hv290_0 := Option.some.inj (hv290_0.symm.trans hx290_0)
                                                      injection hv290_0 with hva_ hvn_ hvc_
                                                      rw [hva_] at ge290_0
                                                      rw [hvc_] at ul290_0
                                                      have HL290_0 := Aside0.mk (show Kd.V (Kd.int .i64) 3 _ w.heap.size _ _ (rd_L1 t274 (ji108)) from Kd.V_mk ul290_0 ge290_0)
                                                      clear hva_ hvn_ hvc_ ge290_0 ul290_0
                                                      clear hcc290 hce290
                                                      have HR290_0 := Aside0.mk hi290_0
                                                      have HC290_0 := Aside0.mk hl290_0
                                                      clear hi290_0 hl290_0
                                                      replace p290 := eq_true p290
                                                      replace q290 := eq_true q290
                                                      have p291 : 0 ≤ (x35_7 : Int) := of_decide_eq_true (by first | (with_reducible assumption) | assumption)
                                                      have q291 : x35_7 < (t274.length : Int) := of_decide_eq_true (by first | (with_reducible assumption) | assumption)
                                                      obtain ⟨ad291, A291_0, c291_0, e291, hx291_0, hl291_0, hi291_0⟩ := at_L1 (Kd.N_reads' HO_25.out).2.2 x35_7 p291 q291
                                                      obtain rfl : ad290 = ad291 := (by injection e291)
                                                      obtain ⟨ce291, hce291, hMe291, hcc291⟩ := Kd.N_get HO_25.out [] x35_7 p291 (by first | exact q291 | exact of_decide_eq_true (by first | (with_reducible assumption) | assumption) | (have e_ := (Kd.N_reads' HO_25.out).1; omega))
                                                      obtain ⟨ua291_0, uc291_0, rfl, ul291_0, ge291_0⟩ := Kd.FK_slice_open hMe291
                                                      have hv291_0 := hcc291 0 _ rfl
                                                      rw [Nat.add_zero, show ((Kd.slice 3 (Kd.int .i64))).sz = 1 from rfl, Nat.mul_one] at hv291_0
                                                      replace hv291_0 := Option.some.inj (hv291_0.symm.trans hx291_0)
                                                      injection hv291_0 with hva_ hvn_ hvc_
                                                      rw [hva_] at ge291_0
                                                      rw [hvc_] at ul291_0
                                                      have HL291_0 := Aside0.mk (show Kd.V (Kd.int .i64) 3 _ w.heap.size _ _ (rd_L1 t274 x35_7) from Kd.V_mk ul291_0 ge291_0)
                                                      clear hva_ hvn_ hvc_ ge291_0 ul291_0
                                                      clear hcc291 hce291
                                                      have HR291_0 := Aside0.mk hi291_0
                                                      have HC291_0 := Aside0.mk hl291_0
                                                      clear hi291_0 hl291_0
                                                      replace p291 := eq_true p291
                                                      replace q291 := eq_true q291
                                                      refine start_ (n := 11) (S := fun w' => w'.cell? (ad290.add ((ji108)).toNat) = some (.slice A290_0 (rd_L1 t274 (ji108)).length c290_0) ∧ w'.cell? (ad290.add (x35_7).toNat) = some (.slice A291_0 (rd_L1 t274 x35_7).length c291_0)) (ds := []) #[false, false, false, false, false, false, false, false, false, false, false] (by kernel_rfl) rfl rfl ⟨hx290_0, hx291_0⟩ (fun hHeld => ?_); refine with_tabW laws_FnSquaresAreCut.tab39 laws_FnSquaresAreCut.bits39 (fun HT_ HW_ => ?_)
                                                      generalize wr.drew = w115 at HO_25 HB HL290_0 HL291_0 HR290_0 HR291_0 hx290_0 hx291_0 hHeld ⊢
                                                      refine pure_ (i := 0) (N := some 240) (v := ?_) (a' := ?_) #[true, false, false, false, false, false, false, false, false, false, false] rfl rfl (any_of HT_.out (by kernel_rfl)) (fun _ _ _ h => h) (Or.inl ⟨by rfl, ?_⟩) ?_ ?_
                                                      rotate_left
                                                      · intro w'
                                                        go_simp
                                                        with_reducible rfl
                                                      rotate_left
                                                      · simp only [Act.put, List.setIfInBounds_toArray, List.set_cons_zero, List.set_cons_succ, i64_w, i32_w]
                                                        rfl
                                                      refine pure_ (i := 1) (N := some 241) (v := ?_) (a' := ?_) #[true, true, false, false, false, false, false, false, false, false, false] rfl rfl (any_of HT_.out (by kernel_rfl)) (fun _ _ _ h => h) (Or.inl ⟨by rfl, ?_⟩) ?_ ?_
                                                      rotate_left
                                                      · intro w'
                                                        go_simp
                                                        with_reducible rfl
                                                      rotate_left
                                                      · simp only [Act.put, List.setIfInBounds_toArray, List.set_cons_zero, List.set_cons_succ, i64_w, i32_w]
                                                        rfl
                                                      refine pure_ (i := 2) (N := some 242) (v := ?_) (a' := ?_) #[true, true, true, false, false, false, false, false, false, false, false] rfl rfl (any_of HT_.out (by kernel_rfl)) (fun _ _ _ h => h) (Or.inl ⟨by rfl, ?_⟩) ?_ ?_
                                                      rotate_left
                                                      · intro w'
                                                        go_simp
                                                        with_reducible rfl
                                                      rotate_left
                                                      · simp only [Act.put, List.setIfInBounds_toArray, List.set_cons_zero, List.set_cons_succ, i64_w, i32_w]
                                                        rfl
                                                      refine pure_ (i := 3) (N := some 243) (v := ?_) (a' := ?_) #[true, true, true, true, false, false, false, false, false, false, false] rfl rfl (any_of HT_.out (by kernel_rfl)) (fun _ _ _ h => h) (Or.inl ⟨by rfl, ?_⟩) ?_ ?_
                                                      rotate_left
                                                      · intro w'
                                                        go_simp
                                                        with_reducible rfl
                                                      rotate_left
                                                      · simp only [Act.put, List.setIfInBounds_toArray, List.set_cons_zero, List.set_cons_succ, i64_w, i32_w]
                                                        rfl
                                                      refine pure_ (i := 5) (N := some 245) (v := ?_) (a' := ?_) #[true, true, true, true, false, true, false, false, false, false, false] rfl rfl (any_of HT_.out (by kernel_rfl)) (fun _ _ _ h => h) (Or.inl ⟨by rfl, ?_⟩) ?_ ?_
                                                      rotate_left
                                                      · intro w'
                                                        go_simp
                                                        with_reducible rfl
                                                      rotate_left
                                                      · simp only [Act.put, List.setIfInBounds_toArray, List.set_cons_zero, List.set_cons_succ, i64_w, i32_w]
                                                        rfl
                                                      refine pure_ (i := 6) (N := some 246) (v := ?_) (a' := ?_) #[true, true, true, true, false, true, true, false, false, false, false] rfl rfl (any_of HT_.out (by kernel_rfl)) (fun _ _ _ h => h) (Or.inl ⟨by rfl, ?_⟩) ?_ ?_
                                                      rotate_left
                                                      · intro w'
                                                        go_simp
                                                        with_reducible rfl
                                                      rotate_left
                                                      · simp only [Act.put, List.setIfInBounds_toArray, List.set_cons_zero, List.set_cons_succ, i64_w, i32_w]
                                                        rfl
                                                      refine pure_ (i := 7) (N := some 247) (v := ?_) (a' := ?_) #[true, true, true, true, false, true, true, true, false, false, false] rfl rfl (any_of HT_.out (by kernel_rfl)) (fun _ _ _ h => h) (Or.inl ⟨by rfl, ?_⟩) ?_ ?_
                                                      rotate_left
                                                      · intro w'
                                                        go_simp
                                                        with_reducible rfl
                                                      rotate_left
                                                      · simp only [Act.put, List.setIfInBounds_toArray, List.set_cons_zero, List.set_cons_succ, i64_w, i32_w]
                                                        rfl
                                                      refine take_ (i := 4) (N := some 244) (v := ?_) (a' := ?_) #[true, true, true, true, true, true, true, true, false, false, false] rfl rfl (take_ofW HT_.out HW_.out (by kernel_rfl)) (fun _ _ _ h => h) (Or.inl ⟨by rfl, ?_⟩) hHeld ?_ ?_
                                                      rotate_left
                                                      · rintro w' ⟨s0, s1⟩
                                                        go_simp
                                                        with_reducible rfl
                                                      rotate_left
                                                      · simp only [Act.put, List.setIfInBounds_toArray, List.set_cons_zero, List.set_cons_succ, i64_w, i32_w]
                                                        rfl
                                                      refine take_ (i := 8) (N := some 248) (v := ?_) (a' := ?_) #[true, true, true, true, true, true, true, true, true, false, false] rfl rfl (take_ofW HT_.out HW_.out (by kernel_rfl)) (fun _ _ _ h => h) (Or.inl ⟨by rfl, ?_⟩) hHeld ?_ ?_
                                                      rotate_left
                                                      · rintro w' ⟨s0, s1⟩
                                                        go_simp
                                                        with_reducible rfl
                                                      rotate_left
                                                      · simp only [Act.put, List.setIfInBounds_toArray, List.set_cons_zero, List.set_cons_succ, i64_w, i32_w]
                                                        rfl
                                                      refine one_ (i := 9) (N := some 249) #[true, true, true, true, true, true, true, true, true, true, false] rfl rfl (one_of HT_.out (by kernel_rfl)) (by decide) (fun K hK => ?_)
                                                      refine goes_ Try.func56 (by kernel_rfl) rfl #[.slice A290_0 (rd_L1 t274 (ji108)).length c290_0, .slice A291_0 (rd_L1 t274 x35_7).length c291_0] (by rfl) rfl rfl (by (try simp only [List.map_toArray, List.map_cons, List.map_nil]); first | done | (simp only [hji108]; rfl) | rfl | (simp only [List.length_drop, List.length_take]; rfl)) ?_
                                                      with_reducible refine (laws_uLess.calls k7 _ _ (rd_L1 t274 (ji108)) _ _ (rd_L1 t274 x35_7) true _ ?side1 ?side2 ?side3 ?side4 A112.out).mono ?_
                                                      (case side1 => repeat (first | exact (by repeat (first | (with_reducible exact HR290_0.out) | (with_reducible refine Kd.C_alloc ?_ _) | (with_reducible refine Kd.C_drewN ?_ _) | (with_reducible refine Kd.C_drew ?_) | exact HR290_0.out)) | (with_reducible refine Kd.C_alloc ?_ _) | (with_reducible refine Kd.C_drewN ?_ _) | (with_reducible refine Kd.C_drew ?_)))
                                                      (case side2 => exact HC290_0.out)
                                                      (case side3 => repeat (first | exact (by repeat (first | (with_reducible exact HR291_0.out) | (with_reducible refine Kd.C_alloc ?_ _) | (with_reducible refine Kd.C_drewN ?_ _) | (with_reducible refine Kd.C_drew ?_) | exact HR291_0.out)) | (with_reducible refine Kd.C_alloc ?_ _) | (with_reducible refine Kd.C_drewN ?_ _) | (with_reducible refine Kd.C_drew ?_)))
                                                      (case side4 => exact HC291_0.out)
                                                      rintro e w' ⟨rfl, ⟨nd, rfl⟩⟩
                                                      refine ⟨_, rfl, ?_⟩
                                                      refine hK.out _ _ ⟨hHeld.1, hHeld.2⟩ (fun hHeld => ?_)
                                                      clear hK K
                                                      refine norm_ (a' := ?_) ?_ ?_
                                                      rotate_left
                                                      · show Act.put _ (some 249) _ = _
                                                        simp only [Act.put, List.setIfInBounds_toArray, List.set_cons_zero, List.set_cons_succ, i64_w, i32_w]
                                                        rfl
                                                      refine pure_ (i := 10) (N := some 250) (v := ?_) (a' := ?_) #[true, true, true, true, true, true, true, true, true, true, true] rfl rfl (any_of HT_.out (by kernel_rfl)) (fun _ _ _ h => h) (Or.inl ⟨by rfl, ?_⟩) ?_ ?_
                                                      rotate_left
                                                      · intro w'
                                                        go_simp
                                                        with_reducible rfl
                                                      rotate_left
                                                      · simp only [Act.put, List.setIfInBounds_toArray, List.set_cons_zero, List.set_cons_succ, i64_w, i32_w]
                                                        rfl
                                                      refine done_ (done_of HT_.out (by kernel_rfl)) ?_
                                                      try go_wp2
                                                      go_roundg k7
                                                      case measure => have := HJ7.out; have := HJ16.out; have := HJ35.out; have := HJ47.out; have := HJ88.out; have := HK6.out; have := HK7.out; omega
                                                      case rel => exact ⟨(wrap64 (x35_7 + 1)), (by first | rfl | (simp; done) | (simp [*]; done)), H', ⟨by have := HJ7.out; have := HJ16.out; have := HJ35.out; have := HJ47.out; have := HJ88.out; have := HK6.out; have := HK7.out; omega⟩, ⟨by (with_reducible repeat (first | apply Kd.N_alloc | apply Kd.N_drewN | apply Kd.N_drew)); exact HO_25.out⟩, ⟨by repeat (first | (with_reducible first | exact HB.out | apply below_alloc | apply pw_below_drewN | apply below_drew1) | exact HB.out)⟩⟩
                                                    · replace c113 := Bool.eq_false_iff.mpr c113
                                                      subst c113
                                                      have H1 : (some false) = some r := by rw [if_neg (show ¬ (false = true) by decide)] at H; exact H
                                                      clear H
                                                      have H := H1
                                                      clear H1
                                                      obtain rfl := Option.some.inj H
                                                      obtain ⟨Ao116, co116, eo116⟩ := Kd.N_slice HO_25.out
                                                      subst eo116
                                                      try go_wp2
                                                      have n0_ := Aside0.mk (Kd.N_drew HO_25.out)
                                                      have n1_ := Aside0.mk (below_drew1 HB.out)
                                                      clear HO_25
                                                      clear HB
                                                      have HO_25 := n0_
                                                      have HB := n1_
                                                      clear n0_ n1_
                                                      have p290 : 0 ≤ ((ji108) : Int) := of_decide_eq_true (by first | (with_reducible assumption) | assumption)
                                                      have q290 : (ji108) < (t274.length : Int) := of_decide_eq_true (by first | (with_reducible assumption) | assumption)
                                                      obtain ⟨ad290, A290_0, c290_0, e290, hx290_0, hl290_0, hi290_0⟩ := at_L1 (Kd.N_reads' HO_25.out).2.2 (ji108) p290 q290
                                                      cases e290
                                                      obtain ⟨ce290, hce290, hMe290, hcc290⟩ := Kd.N_get HO_25.out [] (ji108) p290 (by first | exact q290 | exact of_decide_eq_true (by first | (with_reducible assumption) | assumption) | (have e_ := (Kd.N_reads' HO_25.out).1; omega))
                                                      obtain ⟨ua290_0, uc290_0, rfl, ul290_0, ge290_0⟩ := Kd.FK_slice_open hMe290
                                                      have hv290_0 := hcc290 0 _ rfl
                                                      rw [Nat.add_zero, show ((Kd.slice 3 (Kd.int .i64))).sz = 1 from rfl, Nat.mul_one] at hv290_0
                                                      replace hv290_0 := Option.some.inj (hv290_0.symm.trans hx290_0)
                                                      injection hv290_0 with hva_ hvn_ hvc_
                                                      rw [hva_] at ge290_0
                                                      rw [hvc_] at ul290_0
                                                      have HL290_0 := Aside0.mk (show Kd.V (Kd.int .i64) 3 _ w.heap.size _ _ (rd_L1 t274 (ji108)) from Kd.V_mk ul290_0 ge290_0)
                                                      clear hva_ hvn_ hvc_ ge290_0 ul290_0
                                                      clear hcc290 hce290
                                                      have HR290_0 := Aside0.mk hi290_0
                                                      have HC290_0 := Aside0.mk hl290_0
                                                      clear hi290_0 hl290_0
                                                      replace p290 := eq_true p290
                                                      replace q290 := eq_true q290
                                                      have p291 : 0 ≤ (x35_7 : Int) := of_decide_eq_true (by first | (with_reducible assumption) | assumption)
                                                      have q291 : x35_7 < (t274.length : Int) := of_decide_eq_true (by first | (with_reducible assumption) | assumption)
                                                      obtain ⟨ad291, A291_0, c291_0, e291, hx291_0, hl291_0, hi291_0⟩ := at_L1 (Kd.N_reads' HO_25.out).2.2 x35_7 p291 q291
                                                      obtain rfl : ad290 = ad291 := (by injection e291)
                                                      obtain ⟨ce291, hce291, hMe291, hcc291⟩ := Kd.N_get HO_25.out [] x35_7 p291 (by first | exact q291 | exact of_decide_eq_true (by first | (with_reducible assumption) | assumption) | (have e_ := (Kd.N_reads' HO_25.out).1; omega))
                                                      obtain ⟨ua291_0, uc291_0, rfl, ul291_0, ge291_0⟩ := Kd.FK_slice_open hMe291
                                                      have hv291_0 := hcc291 0 _ rfl
                                                      rw [Nat.add_zero, show ((Kd.slice 3 (Kd.int .i64))).sz = 1 from rfl, Nat.mul_one] at hv291_0
                                                      replace hv291_0 := Option.some.inj (hv291_0.symm.trans hx291_0)
                                                      injection hv291_0 with hva_ hvn_ hvc_
                                                      rw [hva_] at ge291_0
                                                      rw [hvc_] at ul291_0
                                                      have HL291_0 := Aside0.mk (show Kd.V (Kd.int .i64) 3 _ w.heap.size _ _ (rd_L1 t274 x35_7) from Kd.V_mk ul291_0 ge291_0)
                                                      clear hva_ hvn_ hvc_ ge291_0 ul291_0
                                                      clear hcc291 hce291
                                                      have HR291_0 := Aside0.mk hi291_0
                                                      have HC291_0 := Aside0.mk hl291_0
                                                      clear hi291_0 hl291_0
                                                      replace p291 := eq_true p291
                                                      replace q291 := eq_true q291
                                                      refine start_ (n := 11) (S := fun w' => w'.cell? (ad290.add ((ji108)).toNat) = some (.slice A290_0 (rd_L1 t274 (ji108)).length c290_0) ∧ w'.cell? (ad290.add (x35_7).toNat) = some (.slice A291_0 (rd_L1 t274 x35_7).length c291_0)) (ds := []) #[false, false, false, false, false, false, false, false, false, false, false] (by kernel_rfl) rfl rfl ⟨hx290_0, hx291_0⟩ (fun hHeld => ?_); refine with_tabW laws_FnSquaresAreCut.tab39 laws_FnSquaresAreCut.bits39 (fun HT_ HW_ => ?_)
                                                      generalize wr.drew = w117 at HO_25 HB HL290_0 HL291_0 HR290_0 HR291_0 hx290_0 hx291_0 hHeld ⊢
                                                      refine pure_ (i := 0) (N := some 240) (v := ?_) (a' := ?_) #[true, false, false, false, false, false, false, false, false, false, false] rfl rfl (any_of HT_.out (by kernel_rfl)) (fun _ _ _ h => h) (Or.inl ⟨by rfl, ?_⟩) ?_ ?_
                                                      rotate_left
                                                      · intro w'
                                                        go_simp
                                                        with_reducible rfl
                                                      rotate_left
                                                      · simp only [Act.put, List.setIfInBounds_toArray, List.set_cons_zero, List.set_cons_succ, i64_w, i32_w]
                                                        rfl
                                                      refine pure_ (i := 1) (N := some 241) (v := ?_) (a' := ?_) #[true, true, false, false, false, false, false, false, false, false, false] rfl rfl (any_of HT_.out (by kernel_rfl)) (fun _ _ _ h => h) (Or.inl ⟨by rfl, ?_⟩) ?_ ?_
                                                      rotate_left
                                                      · intro w'
                                                        go_simp
                                                        with_reducible rfl
                                                      rotate_left
                                                      · simp only [Act.put, List.setIfInBounds_toArray, List.set_cons_zero, List.set_cons_succ, i64_w, i32_w]
                                                        rfl
                                                      refine pure_ (i := 2) (N := some 242) (v := ?_) (a' := ?_) #[true, true, true, false, false, false, false, false, false, false, false] rfl rfl (any_of HT_.out (by kernel_rfl)) (fun _ _ _ h => h) (Or.inl ⟨by rfl, ?_⟩) ?_ ?_
                                                      rotate_left
                                                      · intro w'
                                                        go_simp
                                                        with_reducible rfl
                                                      rotate_left
                                                      · simp only [Act.put, List.setIfInBounds_toArray, List.set_cons_zero, List.set_cons_succ, i64_w, i32_w]
                                                        rfl
                                                      refine pure_ (i := 3) (N := some 243) (v := ?_) (a' := ?_) #[true, true, true, true, false, false, false, false, false, false, false] rfl rfl (any_of HT_.out (by kernel_rfl)) (fun _ _ _ h => h) (Or.inl ⟨by rfl, ?_⟩) ?_ ?_
                                                      rotate_left
                                                      · intro w'
                                                        go_simp
                                                        with_reducible rfl
                                                      rotate_left
                                                      · simp only [Act.put, List.setIfInBounds_toArray, List.set_cons_zero, List.set_cons_succ, i64_w, i32_w]
                                                        rfl
                                                      refine pure_ (i := 5) (N := some 245) (v := ?_) (a' := ?_) #[true, true, true, true, false, true, false, false, false, false, false] rfl rfl (any_of HT_.out (by kernel_rfl)) (fun _ _ _ h => h) (Or.inl ⟨by rfl, ?_⟩) ?_ ?_
                                                      rotate_left
                                                      · intro w'
                                                        go_simp
                                                        with_reducible rfl
                                                      rotate_left
                                                      · simp only [Act.put, List.setIfInBounds_toArray, List.set_cons_zero, List.set_cons_succ, i64_w, i32_w]
                                                        rfl
                                                      refine pure_ (i := 6) (N := some 246) (v := ?_) (a' := ?_) #[true, true, true, true, false, true, true, false, false, false, false] rfl rfl (any_of HT_.out (by kernel_rfl)) (fun _ _ _ h => h) (Or.inl ⟨by rfl, ?_⟩) ?_ ?_
                                                      rotate_left
                                                      · intro w'
                                                        go_simp
                                                        with_reducible rfl
                                                      rotate_left
                                                      · simp only [Act.put, List.setIfInBounds_toArray, List.set_cons_zero, List.set_cons_succ, i64_w, i32_w]
                                                        rfl
                                                      refine pure_ (i := 7) (N := some 247) (v := ?_) (a' := ?_) #[true, true, true, true, false, true, true, true, false, false, false] rfl rfl (any_of HT_.out (by kernel_rfl)) (fun _ _ _ h => h) (Or.inl ⟨by rfl, ?_⟩) ?_ ?_
                                                      rotate_left
                                                      · intro w'
                                                        go_simp
                                                        with_reducible rfl
                                                      rotate_left
                                                      · simp only [Act.put, List.setIfInBounds_toArray, List.set_cons_zero, List.set_cons_succ, i64_w, i32_w]
                                                        rfl
                                                      refine take_ (i := 4) (N := some 244) (v := ?_) (a' := ?_) #[true, true, true, true, true, true, true, true, false, false, false] rfl rfl (take_ofW HT_.out HW_.out (by kernel_rfl)) (fun _ _ _ h => h) (Or.inl ⟨by rfl, ?_⟩) hHeld ?_ ?_
                                                      rotate_left
                                                      · rintro w' ⟨s0, s1⟩
                                                        go_simp
                                                        with_reducible rfl
                                                      rotate_left
                                                      · simp only [Act.put, List.setIfInBounds_toArray, List.set_cons_zero, List.set_cons_succ, i64_w, i32_w]
                                                        rfl
                                                      refine take_ (i := 8) (N := some 248) (v := ?_) (a' := ?_) #[true, true, true, true, true, true, true, true, true, false, false] rfl rfl (take_ofW HT_.out HW_.out (by kernel_rfl)) (fun _ _ _ h => h) (Or.inl ⟨by rfl, ?_⟩) hHeld ?_ ?_
                                                      rotate_left
                                                      · rintro w' ⟨s0, s1⟩
                                                        go_simp
                                                        with_reducible rfl
                                                      rotate_left
                                                      · simp only [Act.put, List.setIfInBounds_toArray, List.set_cons_zero, List.set_cons_succ, i64_w, i32_w]
                                                        rfl
                                                      refine one_ (i := 9) (N := some 249) #[true, true, true, true, true, true, true, true, true, true, false] rfl rfl (one_of HT_.out (by kernel_rfl)) (by decide) (fun K hK => ?_)
                                                      refine goes_ Try.func56 (by kernel_rfl) rfl #[.slice A290_0 (rd_L1 t274 (ji108)).length c290_0, .slice A291_0 (rd_L1 t274 x35_7).length c291_0] (by rfl) rfl rfl (by (try simp only [List.map_toArray, List.map_cons, List.map_nil]); first | done | (simp only [hji108]; rfl) | rfl | (simp only [List.length_drop, List.length_take]; rfl)) ?_
                                                      with_reducible refine (laws_uLess.calls k7 _ _ (rd_L1 t274 (ji108)) _ _ (rd_L1 t274 x35_7) false _ ?side1 ?side2 ?side3 ?side4 A112.out).mono ?_
                                                      (case side1 => repeat (first | exact (by repeat (first | (with_reducible exact HR290_0.out) | (with_reducible refine Kd.C_alloc ?_ _) | (with_reducible refine Kd.C_drewN ?_ _) | (with_reducible refine Kd.C_drew ?_) | exact HR290_0.out)) | (with_reducible refine Kd.C_alloc ?_ _) | (with_reducible refine Kd.C_drewN ?_ _) | (with_reducible refine Kd.C_drew ?_)))
                                                      (case side2 => exact HC290_0.out)
                                                      (case side3 => repeat (first | exact (by repeat (first | (with_reducible exact HR291_0.out) | (with_reducible refine Kd.C_alloc ?_ _) | (with_reducible refine Kd.C_drewN ?_ _) | (with_reducible refine Kd.C_drew ?_) | exact HR291_0.out)) | (with_reducible refine Kd.C_alloc ?_ _) | (with_reducible refine Kd.C_drewN ?_ _) | (with_reducible refine Kd.C_drew ?_)))
                                                      (case side4 => exact HC291_0.out)
                                                      rintro e w' ⟨rfl, ⟨nd, rfl⟩⟩
                                                      refine ⟨_, rfl, ?_⟩
                                                      refine hK.out _ _ ⟨hHeld.1, hHeld.2⟩ (fun hHeld => ?_)
                                                      clear hK K
                                                      refine norm_ (a' := ?_) ?_ ?_
                                                      rotate_left
                                                      · show Act.put _ (some 249) _ = _
                                                        simp only [Act.put, List.setIfInBounds_toArray, List.set_cons_zero, List.set_cons_succ, i64_w, i32_w]
                                                        rfl
                                                      refine pure_ (i := 10) (N := some 250) (v := ?_) (a' := ?_) #[true, true, true, true, true, true, true, true, true, true, true] rfl rfl (any_of HT_.out (by kernel_rfl)) (fun _ _ _ h => h) (Or.inl ⟨by rfl, ?_⟩) ?_ ?_
                                                      rotate_left
                                                      · intro w'
                                                        go_simp
                                                        with_reducible rfl
                                                      rotate_left
                                                      · simp only [Act.put, List.setIfInBounds_toArray, List.set_cons_zero, List.set_cons_succ, i64_w, i32_w]
                                                        rfl
                                                      refine done_ (done_of HT_.out (by kernel_rfl)) ?_
                                                      try go_wp2
                                                      go_ret
                                                      exact ⟨by first | rfl | (simp [errW_none, errW_some] <;> rfl) | (simp only [← hji108]; first | rfl | (simp [errW_none, errW_some] <;> rfl)) | (simp [*, errW_none, errW_some] <;> rfl), by repeat (first | (with_reducible first | exact HB.out | apply below_alloc | apply pw_below_drewN | apply below_drew1) | exact HB.out)⟩
                                                  · as_aux_lemma =>
                                                    rw [if_neg c111] at H
                                                    exact absurd H (by simp)
                                                · as_aux_lemma =>
                                                  rw [if_neg c110] at H
                                                  exact absurd H (by simp)
                                              · as_aux_lemma =>
                                                rw [if_neg c109] at H
                                                exact absurd H (by simp)
                                            · as_aux_lemma =>
                                              rw [if_neg c107] at H
                                              have c107b0 : decide (x35_7 < (t274.length : Int)) = false := decide_eq_false c107
                                              clear c107
                                              obtain rfl := Option.some.inj H
                                              obtain ⟨Ao118, co118, eo118⟩ := Kd.N_slice HO_25.out
                                              subst eo118
                                              go_wp2
                                              go_ret
                                              exact ⟨by first | rfl | (simp [errW_none, errW_some] <;> rfl) | (simp [*, errW_none, errW_some] <;> rfl), by repeat (first | (with_reducible first | exact HB.out | apply below_alloc | apply pw_below_drewN | apply below_drew1) | exact HB.out)⟩
                          · replace c88 := Bool.eq_false_iff.mpr c88
                            subst c88
                            have H1 : (some true) = some r := by rw [if_neg (show ¬ (false = true) by decide)] at H; exact H
                            clear H
                            have H := H1
                            clear H1
                            obtain rfl := Option.some.inj H
                            go_wp2
                            go_ret
                            exact ⟨by first | rfl | (simp [errW_none, errW_some] <;> rfl) | (simp [*, errW_none, errW_some] <;> rfl), by repeat (first | (with_reducible first | exact HB.out | apply below_alloc | apply pw_below_drewN | apply below_drew1) | exact HB.out)⟩

/-- THE ONE PURE STATEMENT of laws_FnSquaresAreCut: yours. -/
def laws_FnSquaresAreCut.Pure : Prop := ∀ (l0 : List Int) (l1 : List Int), l0.length ≤ maxLen → l0.length * 1 ≤ 140737488351232 → (∀ x ∈ l0, (Lit.int .u8 x).wf = true) → l1.length ≤ maxLen → l1.length * 1 ≤ 140737488351232 → (∀ x ∈ l1, (Lit.int .u8 x).wf = true) → ∃ k, laws_FnSquaresAreCut.f k l0 l1 = some true
theorem laws_FnSquaresAreCut.walk (P : laws_FnSquaresAreCut.Pure) (a0 : Option Addr) (len0 cap0 : Nat) (z0 : List Int) (a1 : Option Addr) (len1 cap1 : Nat) (z1 : List Int) (w : World) (w0 : (a0 = none ∧ len0 = 0 ∧ cap0 = 0 ∧ z0 = []) ∨ ∃ x, a0 = some x ∧ len0 ≤ cap0 ∧ cap0 ≤ maxLen ∧ z0.length = cap0 ∧ (∀ i, i < z0.length → w.cell? (x.add i) = some (.int .u8 (z0.getD i 0))) ∧ ∀ n ∈ z0, (Lit.int .u8 n).wf = true) (y0 : len0 * 1 ≤ 140737488351232) (w1 : (a1 = none ∧ len1 = 0 ∧ cap1 = 0 ∧ z1 = []) ∨ ∃ x, a1 = some x ∧ len1 ≤ cap1 ∧ cap1 ≤ maxLen ∧ z1.length = cap1 ∧ (∀ i, i < z1.length → w.cell? (x.add i) = some (.int .u8 (z1.getD i 0))) ∧ ∀ n ∈ z1, (Lit.int .u8 n).wf = true) (y1 : len1 * 1 ≤ 140737488351232) :
    Calls Try.prog 13 #[.slice a0 len0 cap0, .slice a1 len1 cap1] w fun e w' => e = .returned (.bool true) ∧ Below w.heap.size w w' := by
  obtain ⟨l0, rfl, hr0, hm0, hw0, hc0⟩ := ReadsInt.ofRowC w0
  obtain ⟨l1, rfl, hr1, hm1, hw1, hc1⟩ := ReadsInt.ofRowC w1
  obtain ⟨k, h⟩ := P l0 l1 hm0 y0 hw0 hm1 y1 hw1
  refine (laws_FnSquaresAreCut.calls k _ _ l0 _ _ l1 true w (Kd.C_of_reads (d := (0 : Int)) (h1 := fun _ => rfl) hr0) hc0 (Kd.C_of_reads (d := (0 : Int)) (h1 := fun _ => rfl) hr1) hc1 h).mono ?_
  rintro e w' ⟨rfl, hd⟩
  exact ⟨rfl, hd⟩

end Go.Proofs.Ytmdhclpkbopmdaa.Q
