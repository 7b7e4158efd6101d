-- PRINTED by print.py (a twelfth state) out of the translation. Not trusted: Lean checks it.
import Derived.Test.YtmdhclpkbopmdaaQx0
import Derived.Test.YtmdhclpkbopmdaaQx1
namespace Go.Proofs.Ytmdhclpkbopmdaa.Given
end Go.Proofs.Ytmdhclpkbopmdaa.Given
namespace Go.Proofs.Ytmdhclpkbopmdaa.Q
open Go.Proofs.Ytmdhclpkbopmdaa.Given Go.RowKit Go.Proofs.YtmdhclpkbopmdaaW.PrintWords Go.Proofs.YtmdhclpkbopmdaaW.PrintLast Go.Proofs.YtmdhclpkbopmdaaW.PrintMore
attribute [local go_sem] max2_int min2_int max_two min_two max_three min_three max_four min_four   -- for this text's walks alone
set_option linter.unusedVariables false
set_option linter.unusedSimpArgs false

/-! ### spec_l1Cur_opposite: function 113 -/
mutual
def spec_l1Cur_opposite.l0 : Nat → Int → List Int → Int → Int → List Int → Int → Int → Option (Int × List Int × Int × Int)
  | 0, _, _, _, _, _, _, _ => none
  | k + 1, x4, x5, x22, x23, x1000, x1001, x1002 => if x23 < x22 then ((spec_l1Cur_among.f x1000 x1001 x1002 (([1, 2, (-1), (-2)] : List Int))).bind fun bt128 => (if 0 ≤ x23 then (if x23 < (x5.length : Int) then (spec_l1Cur_opposite.l0 k x4 (x5.set (x23 : Int).toNat bt128.1) x22 (wrap64 (x23 + 1)) x1000 bt128.2.1 bt128.2.2) else (none)) else (none))) else ((spec_l1Cur_one.f x1000 x1001 x1002 2).bind fun bt132 => (if bt132.1 = true then ((spec_l1Cur_pick.f x1000 bt132.2.1 bt132.2.2 4).bind fun bt135 => (spec_l1Cur_opposite.l1 k x4 x5 bt135.1 (x5.length : Int) 0 x1000 bt135.2.1 bt135.2.2)) else (spec_l1Cur_opposite.j5 k x4 x5 x1000 bt132.2.1 bt132.2.2)))
def spec_l1Cur_opposite.j5 : Nat → Int → List Int → List Int → Int → Int → Option (Int × List Int × Int × Int)
  | 0, _, _, _, _, _ => none
  | k + 1, x4, x5, x1000, x1001, x1002 => spec_l1Cur_opposite.l2 k x4 x5 (x5.length : Int) 0 x1000 x1001 x1002
def spec_l1Cur_opposite.l2 : Nat → Int → List Int → Int → Int → List Int → Int → Int → Option (Int × List Int × Int × Int)
  | 0, _, _, _, _, _, _, _ => none
  | k + 1, x4, x5, x98, x99, x1000, x1001, x1002 => if x99 < x98 then ((spec_opAt.f x4 x99).bind fun bt173 => ((spec_l1Abs.f bt173.1).bind fun t175 => (if t175 = x4 then (if 0 ≤ x99 then (if x99 < (x5.length : Int) then (if 0 ≤ (wrap64 ((wrap64 ((x5.length : Int) - 1)) - x99)) then (if (wrap64 ((wrap64 ((x5.length : Int) - 1)) - x99)) < (x5.length : Int) then (spec_l1Cur_opposite.l2 k x4 (x5.set ((wrap64 ((wrap64 ((x5.length : Int) - 1)) - x99)) : Int).toNat (wrap64 (-(rd x5 x99)))) x98 (wrap64 (x99 + 1)) x1000 x1001 x1002) else (none)) else (none)) else (none)) else (none)) else ((spec_l1Abs.f bt173.2).bind fun t178 => (if t178 = x4 then (if 0 ≤ x99 then (if x99 < (x5.length : Int) then (if 0 ≤ (wrap64 ((wrap64 ((x5.length : Int) - 1)) - x99)) then (if (wrap64 ((wrap64 ((x5.length : Int) - 1)) - x99)) < (x5.length : Int) then (spec_l1Cur_opposite.l2 k x4 (x5.set ((wrap64 ((wrap64 ((x5.length : Int) - 1)) - x99)) : Int).toNat (wrap64 (-(rd x5 x99)))) x98 (wrap64 (x99 + 1)) x1000 x1001 x1002) else (none)) else (none)) else (none)) else (none)) else (spec_l1Cur_opposite.l2 k x4 x5 x98 (wrap64 (x99 + 1)) x1000 x1001 x1002)))))) else ((spec_l1Cur_pick.f x1000 x1001 x1002 12).bind fun bt181 => (if bt181.1 = 0 then ((spec_l1Cur_pick.f x1000 bt181.2.1 bt181.2.2 (x5.length : Int)).bind fun bt184 => ((spec_l1Cur_among.f x1000 bt184.2.1 bt184.2.2 (([0, 3, (-3), 1, 4611686018427387904] : List Int))).bind fun bt190 => (if 0 ≤ bt184.1 then (if bt184.1 < (x5.length : Int) then (some (x4, (x5.set (bt184.1 : Int).toNat bt190.1), bt190.2.1, bt190.2.2)) else (none)) else (none)))) else (if bt181.1 = 1 then ((spec_l1Cur_among.f x1000 bt181.2.1 bt181.2.2 (([0, 3, 4, 5] : List Int))).bind fun bt197 => (some (bt197.1, x5, bt197.2.1, bt197.2.2))) else (some (x4, x5, bt181.2.1, bt181.2.2)))))
def spec_l1Cur_opposite.l1 : Nat → Int → List Int → Int → Int → Int → List Int → Int → Int → Option (Int × List Int × Int × Int)
  | 0, _, _, _, _, _, _, _, _ => none
  | k + 1, x4, x5, x7, x38, x39, x1000, x1001, x1002 => if x39 < x38 then ((spec_opAt.f x4 x39).bind fun bt138 => (if bt138.1 > 0 then (if bt138.2 ≤ 0 then (spec_l1Cur_opposite.j2 k x4 x5 x7 x39 bt138.1 bt138.2 3 x38 x39 (decide ((wrap64 (-bt138.2)) ≤ bt138.1)) x1000 x1001 x1002) else (spec_l1Cur_opposite.j2 k x4 x5 x7 x39 bt138.1 bt138.2 3 x38 x39 false x1000 x1001 x1002)) else (spec_l1Cur_opposite.j2 k x4 x5 x7 x39 bt138.1 bt138.2 3 x38 x39 false x1000 x1001 x1002))) else (spec_l1Cur_opposite.j5 k x4 x5 x1000 x1001 x1002)
def spec_l1Cur_opposite.j2 : Nat → Int → List Int → Int → Int → Int → Int → Int → Int → Int → Bool → List Int → Int → Int → Option (Int × List Int × Int × Int)
  | 0, _, _, _, _, _, _, _, _, _, _, _, _, _ => none
  | k + 1, x4, x5, x7, x8, x9, x10, x11, x38, x39, x48, x1000, x1001, x1002 => if x48 = true then ((spec_l1Cur_one.f x1000 x1001 x1002 9).bind fun bt140 => (if bt140.1 = true then (spec_l1Cur_opposite.l1 k x4 x5 x7 x38 (wrap64 (x39 + 1)) x1000 bt140.2.1 bt140.2.2) else ((some (([1, 2, (-1), (-2)] : List Int) : List Int)).bind fun y143 => (if 0 ≤ (Int.tmod (wrap64 (0 + x7)) 4) then (if (Int.tmod (wrap64 (0 + x7)) 4) < (y143.length : Int) then (if 0 ≤ x8 then (if x8 < (x5.length : Int) then (spec_l1Cur_opposite.l1 k x4 (x5.set (x8 : Int).toNat (rd y143 (Int.tmod (wrap64 (0 + x7)) 4))) x7 x38 (wrap64 (x39 + 1)) x1000 bt140.2.1 bt140.2.2) else (none)) else (none)) else (none)) else (none))))) else (if x10 > 0 then ((spec_l1Abs.f x9).bind fun t148 => (spec_l1Cur_opposite.j3 k x4 x5 x7 x8 x9 x10 x11 x38 x39 (decide (t148 ≤ x10)) x1000 x1001 x1002)) else (spec_l1Cur_opposite.j3 k x4 x5 x7 x8 x9 x10 x11 x38 x39 false x1000 x1001 x1002))
def spec_l1Cur_opposite.j3 : Nat → Int → List Int → Int → Int → Int → Int → Int → Int → Int → Bool → List Int → Int → Int → Option (Int × List Int × Int × Int)
  | 0, _, _, _, _, _, _, _, _, _, _, _, _, _ => none
  | k + 1, x4, x5, x7, x8, x9, x10, x11, x38, x39, x61, x1000, x1001, x1002 => if x61 = true then ((spec_l1Cur_one.f x1000 x1001 x1002 9).bind fun bt149 => (if bt149.1 = true then (spec_l1Cur_opposite.l1 k x4 x5 x7 x38 (wrap64 (x39 + 1)) x1000 bt149.2.1 bt149.2.2) else ((some (([1, 2, (-1), (-2)] : List Int) : List Int)).bind fun y152 => (if 0 ≤ (Int.tmod (wrap64 (1 + x7)) 4) then (if (Int.tmod (wrap64 (1 + x7)) 4) < (y152.length : Int) then (if 0 ≤ x8 then (if x8 < (x5.length : Int) then (spec_l1Cur_opposite.l1 k x4 (x5.set (x8 : Int).toNat (rd y152 (Int.tmod (wrap64 (1 + x7)) 4))) x7 x38 (wrap64 (x39 + 1)) x1000 bt149.2.1 bt149.2.2) else (none)) else (none)) else (none)) else (none))))) else (if x9 < 0 then (if x10 ≥ 0 then (spec_l1Cur_opposite.j4 k x4 x5 x7 x8 x11 x38 x39 (decide (x10 ≤ (wrap64 (-x9)))) x1000 x1001 x1002) else (spec_l1Cur_opposite.j4 k x4 x5 x7 x8 x11 x38 x39 false x1000 x1001 x1002)) else (spec_l1Cur_opposite.j4 k x4 x5 x7 x8 x11 x38 x39 false x1000 x1001 x1002))
def spec_l1Cur_opposite.j4 : Nat → Int → List Int → Int → Int → Int → Int → Int → Bool → List Int → Int → Int → Option (Int × List Int × Int × Int)
  | 0, _, _, _, _, _, _, _, _, _, _, _ => none
  | k + 1, x4, x5, x7, x8, x11, x38, x39, x70, x1000, x1001, x1002 => if x70 = true then ((spec_l1Cur_one.f x1000 x1001 x1002 9).bind fun bt157 => (if bt157.1 = true then (spec_l1Cur_opposite.l1 k x4 x5 x7 x38 (wrap64 (x39 + 1)) x1000 bt157.2.1 bt157.2.2) else ((some (([1, 2, (-1), (-2)] : List Int) : List Int)).bind fun y160 => (if 0 ≤ (Int.tmod (wrap64 (2 + x7)) 4) then (if (Int.tmod (wrap64 (2 + x7)) 4) < (y160.length : Int) then (if 0 ≤ x8 then (if x8 < (x5.length : Int) then (spec_l1Cur_opposite.l1 k x4 (x5.set (x8 : Int).toNat (rd y160 (Int.tmod (wrap64 (2 + x7)) 4))) x7 x38 (wrap64 (x39 + 1)) x1000 bt157.2.1 bt157.2.2) else (none)) else (none)) else (none)) else (none))))) else ((spec_l1Cur_one.f x1000 x1001 x1002 9).bind fun bt165 => (if bt165.1 = true then (spec_l1Cur_opposite.l1 k x4 x5 x7 x38 (wrap64 (x39 + 1)) x1000 bt165.2.1 bt165.2.2) else ((some (([1, 2, (-1), (-2)] : List Int) : List Int)).bind fun y168 => (if 0 ≤ (Int.tmod (wrap64 (x11 + x7)) 4) then (if (Int.tmod (wrap64 (x11 + x7)) 4) < (y168.length : Int) then (if 0 ≤ x8 then (if x8 < (x5.length : Int) then (spec_l1Cur_opposite.l1 k x4 (x5.set (x8 : Int).toNat (rd y168 (Int.tmod (wrap64 (x11 + x7)) 4))) x7 x38 (wrap64 (x39 + 1)) x1000 bt165.2.1 bt165.2.2) else (none)) else (none)) else (none)) else (none)))))
end
def spec_l1Cur_opposite.f (k : Nat) (s0_0 : List Int) (s0_1 : Int) (s0_2 : Int) : Option (Int × List Int × Int × Int) := (spec_l1Cur_pick.f s0_0 s0_1 s0_2 2).bind fun bt118 => ((spec_opCount.f (wrap64 (1 + bt118.1))).bind fun t121 => (if 0 ≤ t121 then (if (t121 : Int).toNat ≤ 35184372088832 then ((some (List.replicate (t121 : Int).toNat 0 : List Int)).bind fun y122 => (spec_l1Cur_opposite.l0 k (wrap64 (1 + bt118.1)) y122 (y122.length : Int) 0 s0_0 bt118.2.1 bt118.2.2)) else (none)) else (none)))
theorem spec_l1Cur_opposite.mono_l : ∀ k, (∀ y0 y1 y2 y3 y4 y5 y6, LeO (spec_l1Cur_opposite.l0 k y0 y1 y2 y3 y4 y5 y6) (spec_l1Cur_opposite.l0 (k + 1) y0 y1 y2 y3 y4 y5 y6)) ∧ (∀ y0 y1 y2 y3 y4, LeO (spec_l1Cur_opposite.j5 k y0 y1 y2 y3 y4) (spec_l1Cur_opposite.j5 (k + 1) y0 y1 y2 y3 y4)) ∧ (∀ y0 y1 y2 y3 y4 y5 y6, LeO (spec_l1Cur_opposite.l2 k y0 y1 y2 y3 y4 y5 y6) (spec_l1Cur_opposite.l2 (k + 1) y0 y1 y2 y3 y4 y5 y6)) ∧ (∀ y0 y1 y2 y3 y4 y5 y6 y7, LeO (spec_l1Cur_opposite.l1 k y0 y1 y2 y3 y4 y5 y6 y7) (spec_l1Cur_opposite.l1 (k + 1) y0 y1 y2 y3 y4 y5 y6 y7)) ∧ (∀ y0 y1 y2 y3 y4 y5 y6 y7 y8 y9 y10 y11 y12, LeO (spec_l1Cur_opposite.j2 k y0 y1 y2 y3 y4 y5 y6 y7 y8 y9 y10 y11 y12) (spec_l1Cur_opposite.j2 (k + 1) y0 y1 y2 y3 y4 y5 y6 y7 y8 y9 y10 y11 y12)) ∧ (∀ y0 y1 y2 y3 y4 y5 y6 y7 y8 y9 y10 y11 y12, LeO (spec_l1Cur_opposite.j3 k y0 y1 y2 y3 y4 y5 y6 y7 y8 y9 y10 y11 y12) (spec_l1Cur_opposite.j3 (k + 1) y0 y1 y2 y3 y4 y5 y6 y7 y8 y9 y10 y11 y12)) ∧ (∀ y0 y1 y2 y3 y4 y5 y6 y7 y8 y9 y10, LeO (spec_l1Cur_opposite.j4 k y0 y1 y2 y3 y4 y5 y6 y7 y8 y9 y10) (spec_l1Cur_opposite.j4 (k + 1) y0 y1 y2 y3 y4 y5 y6 y7 y8 y9 y10))
  | 0 => ⟨fun _ _ _ _ _ _ _ r h => by simp [spec_l1Cur_opposite.l0] at h, fun _ _ _ _ _ r h => by simp [spec_l1Cur_opposite.j5] at h, fun _ _ _ _ _ _ _ r h => by simp [spec_l1Cur_opposite.l2] at h, fun _ _ _ _ _ _ _ _ r h => by simp [spec_l1Cur_opposite.l1] at h, fun _ _ _ _ _ _ _ _ _ _ _ _ _ r h => by simp [spec_l1Cur_opposite.j2] at h, fun _ _ _ _ _ _ _ _ _ _ _ _ _ r h => by simp [spec_l1Cur_opposite.j3] at h, fun _ _ _ _ _ _ _ _ _ _ _ r h => by simp [spec_l1Cur_opposite.j4] at h⟩
  | k + 1 => by
    obtain ⟨ih0, ih1, ih2, ih3, ih4, ih5, ih6⟩ := spec_l1Cur_opposite.mono_l k
    refine ⟨?_, ?_, ?_, ?_, ?_, ?_, ?_⟩
    · intro y0 y1 y2 y3 y4 y5 y6
      unfold spec_l1Cur_opposite.l0
      repeat' first
      | (with_reducible exact ih0 _ _ _ _ _ _ _)
      | (with_reducible exact ih1 _ _ _ _ _)
      | (with_reducible exact ih2 _ _ _ _ _ _ _)
      | (with_reducible exact ih3 _ _ _ _ _ _ _ _)
      | (with_reducible exact ih4 _ _ _ _ _ _ _ _ _ _ _ _ _)
      | (with_reducible exact ih5 _ _ _ _ _ _ _ _ _ _ _ _ _)
      | (with_reducible exact ih6 _ _ _ _ _ _ _ _ _ _ _)
      | (with_reducible exact LeO.refl _)
      | (with_reducible exact LeO.none _)
      | (with_reducible refine LeO.ite ?_ ?_)
      | (with_reducible refine LeO.bind ?_ (fun _ => ?_))
      | exact ih0 _ _ _ _ _ _ _
      | exact ih1 _ _ _ _ _
      | exact ih2 _ _ _ _ _ _ _
      | exact ih3 _ _ _ _ _ _ _ _
      | exact ih4 _ _ _ _ _ _ _ _ _ _ _ _ _
      | exact ih5 _ _ _ _ _ _ _ _ _ _ _ _ _
      | exact ih6 _ _ _ _ _ _ _ _ _ _ _
      | exact LeO.none _
      | refine LeO.ite ?_ ?_
      | refine LeO.bind ?_ (fun _ => ?_)
    · intro y0 y1 y2 y3 y4
      unfold spec_l1Cur_opposite.j5
      repeat' first
      | (with_reducible exact ih0 _ _ _ _ _ _ _)
      | (with_reducible exact ih1 _ _ _ _ _)
      | (with_reducible exact ih2 _ _ _ _ _ _ _)
      | (with_reducible exact ih3 _ _ _ _ _ _ _ _)
      | (with_reducible exact ih4 _ _ _ _ _ _ _ _ _ _ _ _ _)
      | (with_reducible exact ih5 _ _ _ _ _ _ _ _ _ _ _ _ _)
      | (with_reducible exact ih6 _ _ _ _ _ _ _ _ _ _ _)
      | (with_reducible exact LeO.refl _)
      | (with_reducible exact LeO.none _)
      | (with_reducible refine LeO.ite ?_ ?_)
      | (with_reducible refine LeO.bind ?_ (fun _ => ?_))
      | exact ih0 _ _ _ _ _ _ _
      | exact ih1 _ _ _ _ _
      | exact ih2 _ _ _ _ _ _ _
      | exact ih3 _ _ _ _ _ _ _ _
      | exact ih4 _ _ _ _ _ _ _ _ _ _ _ _ _
      | exact ih5 _ _ _ _ _ _ _ _ _ _ _ _ _
      | exact ih6 _ _ _ _ _ _ _ _ _ _ _
      | exact LeO.none _
      | refine LeO.ite ?_ ?_
      | refine LeO.bind ?_ (fun _ => ?_)
    · intro y0 y1 y2 y3 y4 y5 y6
      unfold spec_l1Cur_opposite.l2
      repeat' first
      | (with_reducible exact ih0 _ _ _ _ _ _ _)
      | (with_reducible exact ih1 _ _ _ _ _)
      | (with_reducible exact ih2 _ _ _ _ _ _ _)
      | (with_reducible exact ih3 _ _ _ _ _ _ _ _)
      | (with_reducible exact ih4 _ _ _ _ _ _ _ _ _ _ _ _ _)
      | (with_reducible exact ih5 _ _ _ _ _ _ _ _ _ _ _ _ _)
      | (with_reducible exact ih6 _ _ _ _ _ _ _ _ _ _ _)
      | (with_reducible exact LeO.refl _)
      | (with_reducible exact LeO.none _)
      | (with_reducible refine LeO.ite ?_ ?_)
      | (with_reducible refine LeO.bind ?_ (fun _ => ?_))
      | exact ih0 _ _ _ _ _ _ _
      | exact ih1 _ _ _ _ _
      | exact ih2 _ _ _ _ _ _ _
      | exact ih3 _ _ _ _ _ _ _ _
      | exact ih4 _ _ _ _ _ _ _ _ _ _ _ _ _
      | exact ih5 _ _ _ _ _ _ _ _ _ _ _ _ _
      | exact ih6 _ _ _ _ _ _ _ _ _ _ _
      | exact LeO.none _
      | refine LeO.ite ?_ ?_
      | refine LeO.bind ?_ (fun _ => ?_)
    · intro y0 y1 y2 y3 y4 y5 y6 y7
      unfold spec_l1Cur_opposite.l1
      repeat' first
      | (with_reducible exact ih0 _ _ _ _ _ _ _)
      | (with_reducible exact ih1 _ _ _ _ _)
      | (with_reducible exact ih2 _ _ _ _ _ _ _)
      | (with_reducible exact ih3 _ _ _ _ _ _ _ _)
      | (with_reducible exact ih4 _ _ _ _ _ _ _ _ _ _ _ _ _)
      | (with_reducible exact ih5 _ _ _ _ _ _ _ _ _ _ _ _ _)
      | (with_reducible exact ih6 _ _ _ _ _ _ _ _ _ _ _)
      | (with_reducible exact LeO.refl _)
      | (with_reducible exact LeO.none _)
      | (with_reducible refine LeO.ite ?_ ?_)
      | (with_reducible refine LeO.bind ?_ (fun _ => ?_))
      | exact ih0 _ _ _ _ _ _ _
      | exact ih1 _ _ _ _ _
      | exact ih2 _ _ _ _ _ _ _
      | exact ih3 _ _ _ _ _ _ _ _
      | exact ih4 _ _ _ _ _ _ _ _ _ _ _ _ _
      | exact ih5 _ _ _ _ _ _ _ _ _ _ _ _ _
      | exact ih6 _ _ _ _ _ _ _ _ _ _ _
      | exact LeO.none _
      | refine LeO.ite ?_ ?_
      | refine LeO.bind ?_ (fun _ => ?_)
    · intro y0 y1 y2 y3 y4 y5 y6 y7 y8 y9 y10 y11 y12
      unfold spec_l1Cur_opposite.j2
      repeat' first
      | (with_reducible exact ih0 _ _ _ _ _ _ _)
      | (with_reducible exact ih1 _ _ _ _ _)
      | (with_reducible exact ih2 _ _ _ _ _ _ _)
      | (with_reducible exact ih3 _ _ _ _ _ _ _ _)
      | (with_reducible exact ih4 _ _ _ _ _ _ _ _ _ _ _ _ _)
      | (with_reducible exact ih5 _ _ _ _ _ _ _ _ _ _ _ _ _)
      | (with_reducible exact ih6 _ _ _ _ _ _ _ _ _ _ _)
      | (with_reducible exact LeO.refl _)
      | (with_reducible exact LeO.none _)
      | (with_reducible refine LeO.ite ?_ ?_)
      | (with_reducible refine LeO.bind ?_ (fun _ => ?_))
      | exact ih0 _ _ _ _ _ _ _
      | exact ih1 _ _ _ _ _
      | exact ih2 _ _ _ _ _ _ _
      | exact ih3 _ _ _ _ _ _ _ _
      | exact ih4 _ _ _ _ _ _ _ _ _ _ _ _ _
      | exact ih5 _ _ _ _ _ _ _ _ _ _ _ _ _
      | exact ih6 _ _ _ _ _ _ _ _ _ _ _
      | exact LeO.none _
      | refine LeO.ite ?_ ?_
      | refine LeO.bind ?_ (fun _ => ?_)
    · intro y0 y1 y2 y3 y4 y5 y6 y7 y8 y9 y10 y11 y12
      unfold spec_l1Cur_opposite.j3
      repeat' first
      | (with_reducible exact ih0 _ _ _ _ _ _ _)
      | (with_reducible exact ih1 _ _ _ _ _)
      | (with_reducible exact ih2 _ _ _ _ _ _ _)
      | (with_reducible exact ih3 _ _ _ _ _ _ _ _)
      | (with_reducible exact ih4 _ _ _ _ _ _ _ _ _ _ _ _ _)
      | (with_reducible exact ih5 _ _ _ _ _ _ _ _ _ _ _ _ _)
      | (with_reducible exact ih6 _ _ _ _ _ _ _ _ _ _ _)
      | (with_reducible exact LeO.refl _)
      | (with_reducible exact LeO.none _)
      | (with_reducible refine LeO.ite ?_ ?_)
      | (with_reducible refine LeO.bind ?_ (fun _ => ?_))
      | exact ih0 _ _ _ _ _ _ _
      | exact ih1 _ _ _ _ _
      | exact ih2 _ _ _ _ _ _ _
      | exact ih3 _ _ _ _ _ _ _ _
      | exact ih4 _ _ _ _ _ _ _ _ _ _ _ _ _
      | exact ih5 _ _ _ _ _ _ _ _ _ _ _ _ _
      | exact ih6 _ _ _ _ _ _ _ _ _ _ _
      | exact LeO.none _
      | refine LeO.ite ?_ ?_
      | refine LeO.bind ?_ (fun _ => ?_)
    · intro y0 y1 y2 y3 y4 y5 y6 y7 y8 y9 y10
      unfold spec_l1Cur_opposite.j4
      repeat' first
      | (with_reducible exact ih0 _ _ _ _ _ _ _)
      | (with_reducible exact ih1 _ _ _ _ _)
      | (with_reducible exact ih2 _ _ _ _ _ _ _)
      | (with_reducible exact ih3 _ _ _ _ _ _ _ _)
      | (with_reducible exact ih4 _ _ _ _ _ _ _ _ _ _ _ _ _)
      | (with_reducible exact ih5 _ _ _ _ _ _ _ _ _ _ _ _ _)
      | (with_reducible exact ih6 _ _ _ _ _ _ _ _ _ _ _)
      | (with_reducible exact LeO.refl _)
      | (with_reducible exact LeO.none _)
      | (with_reducible refine LeO.ite ?_ ?_)
      | (with_reducible refine LeO.bind ?_ (fun _ => ?_))
      | exact ih0 _ _ _ _ _ _ _
      | exact ih1 _ _ _ _ _
      | exact ih2 _ _ _ _ _ _ _
      | exact ih3 _ _ _ _ _ _ _ _
      | exact ih4 _ _ _ _ _ _ _ _ _ _ _ _ _
      | exact ih5 _ _ _ _ _ _ _ _ _ _ _ _ _
      | exact ih6 _ _ _ _ _ _ _ _ _ _ _
      | exact LeO.none _
      | refine LeO.ite ?_ ?_
      | refine LeO.bind ?_ (fun _ => ?_)
theorem spec_l1Cur_opposite.mono : ∀ a0 a1 a2 k, LeO (spec_l1Cur_opposite.f k a0 a1 a2) (spec_l1Cur_opposite.f (k + 1) a0 a1 a2) := by
  intro a0 a1 a2 k
  obtain ⟨ih0, ih1, ih2, ih3, ih4, ih5, ih6⟩ := spec_l1Cur_opposite.mono_l k
  unfold spec_l1Cur_opposite.f
  repeat' first
      | (with_reducible exact ih0 _ _ _ _ _ _ _)
      | (with_reducible exact ih1 _ _ _ _ _)
      | (with_reducible exact ih2 _ _ _ _ _ _ _)
      | (with_reducible exact ih3 _ _ _ _ _ _ _ _)
      | (with_reducible exact ih4 _ _ _ _ _ _ _ _ _ _ _ _ _)
      | (with_reducible exact ih5 _ _ _ _ _ _ _ _ _ _ _ _ _)
      | (with_reducible exact ih6 _ _ _ _ _ _ _ _ _ _ _)
      | (with_reducible exact LeO.refl _)
      | (with_reducible exact LeO.none _)
      | (with_reducible refine LeO.ite ?_ ?_)
      | (with_reducible refine LeO.bind ?_ (fun _ => ?_))
      | exact ih0 _ _ _ _ _ _ _
      | exact ih1 _ _ _ _ _
      | exact ih2 _ _ _ _ _ _ _
      | exact ih3 _ _ _ _ _ _ _ _
      | exact ih4 _ _ _ _ _ _ _ _ _ _ _ _ _
      | exact ih5 _ _ _ _ _ _ _ _ _ _ _ _ _
      | exact ih6 _ _ _ _ _ _ _ _ _ _ _
      | exact LeO.none _
      | refine LeO.ite ?_ ?_
      | refine LeO.bind ?_ (fun _ => ?_)
set_option maxHeartbeats 8000000 in
set_option maxRecDepth 100000 in
theorem spec_l1Cur_opposite.calls (k : Nat) (g : Nat) (s0_0 : List Int) (s0_1 : Int) (s0_2 : Int) (r1 : Int) (r2 : List Int) (r3 : Int) (r4 : Int) (w0 w : World) (hI : IsS77 w0 w g s0_0 s0_1 s0_2) (hB : Below w0.heap.size w0 w) (h : spec_l1Cur_opposite.f k s0_0 s0_1 s0_2 = some (r1, r2, r3, r4)) :
    Calls Try.prog 113 #[.pointer (some ⟨g, 0, none⟩)] w fun e w' => ∃ v1_ : Value, e = .returned (.tuple #[.int .i64 r1, v1_]) ∧ Kd.R (Kd.int .i64) 3 w' w.heap.size (fun _ => True) v1_ r2 ∧ IsS77 w0 w' g s0_0 r3 r4 ∧ Below w0.heap.size w0 w' ∧ KeepBut w w' g none := by
  have HI0 := Aside0.mk hI
  have HK := Aside0.mk (KeepBut.refl w g none)
  have HL := Aside0.mk hB.size
  clear hI
  have HW0 := Aside0.mk hB.size
  have HB := Aside0.mk hB
  clear hB
  have H : ((spec_l1Cur_pick.f s0_0 s0_1 s0_2 2).bind fun bt118 => ((spec_opCount.f (wrap64 (1 + bt118.1))).bind fun t121 => (if 0 ≤ t121 then (if (t121 : Int).toNat ≤ 35184372088832 then ((some (List.replicate (t121 : Int).toNat 0 : List Int)).bind fun y122 => (spec_l1Cur_opposite.l0 k (wrap64 (1 + bt118.1)) y122 (y122.length : Int) 0 s0_0 bt118.2.1 bt118.2.2)) else (none)) else (none)))) = some (r1, r2, r3, r4) := h
  clear h
  replace H := Option.bind_eq_some_iff.mp H
  obtain ⟨⟨t118, t119, t120⟩, A20, H⟩ := H
  replace H : ((spec_opCount.f (wrap64 (1 + t118))).bind fun t121 => (if 0 ≤ t121 then (if (t121 : Int).toNat ≤ 35184372088832 then ((some (List.replicate (t121 : Int).toNat 0 : List Int)).bind fun y122 => (spec_l1Cur_opposite.l0 k (wrap64 (1 + t118)) y122 (y122.length : Int) 0 s0_0 t119 t120)) else (none)) else (none))) = some (r1, r2, r3, r4) := H
  have A2 := Aside0.mk A20
  clear A20
  replace H := Option.bind_eq_some_iff.mp H
  obtain ⟨t121, A30, H⟩ := H
  replace H : (if 0 ≤ t121 then (if (t121 : Int).toNat ≤ 35184372088832 then ((some (List.replicate (t121 : Int).toNat 0 : List Int)).bind fun y122 => (spec_l1Cur_opposite.l0 k (wrap64 (1 + t118)) y122 (y122.length : Int) 0 s0_0 t119 t120)) else (none)) else (none)) = some (r1, r2, r3, r4) := H
  have A3 := Aside0.mk A30
  clear A30
  by_cases c4 : 0 ≤ t121
  · rw [if_pos c4] at H
    have c4b0 := eq_true c4
    have c4b1 : decide (0 ≤ t121) = true := decide_eq_true c4
    clear c4
    by_cases c5 : (t121 : Int).toNat ≤ 35184372088832
    · rw [if_pos c5] at H
      have c5b0 := eq_true c5
      have c5b1 : decide ((t121 : Int).toNat ≤ 35184372088832) = true := decide_eq_true c5
      clear c5
      obtain ⟨y122, hy122⟩ : ∃ y_ : List Int, y_ = (List.replicate (t121 : Int).toNat 0) := ⟨_, rfl⟩
      replace H : (spec_l1Cur_opposite.l0 k (wrap64 (1 + t118)) y122 (y122.length : Int) 0 s0_0 t119 t120) = some (r1, r2, r3, r4) := by first | (rw [hy122]; with_reducible exact H) | (have H2_ := (Option.bind_some _ _).symm.trans H; rw [hy122]; with_reducible exact H2_) | (have H2_ := (Option.bind_some _ _).symm.trans H; with_reducible exact H2_) | with_reducible exact H | (rw [hy122]; exact H) | exact H
      have Ny122 := Aside0.mk hy122
      clear hy122
      have H' := Aside0.mk H
      clear H
      go_enter Try.func113, Try.ntmps113
      go_wp2_with (first | ((with_reducible refine gate_callee (f := 87) rfl ?_); refine goesL_ (some 16) rfl rfl Try.func87 (by kernel_rfl) rfl #[.pointer (some ⟨g, 0, none⟩), .int .i64 2] rfl (by (try simp only [List.map_toArray, List.map_cons, List.map_nil]); first | done | rfl | (simp only [List.length_drop, List.length_take]; rfl)) ?_; (with_reducible refine (spec_l1Cur_pick.calls g s0_0 s0_1 s0_2 2 t118 t119 t120 w0 _ ?side1 ?side2 A2.out).mono ?_); (case side1 => repeat (first | (with_reducible first | exact HI0.out | apply IsS77.alloc | apply IsS77.drewN | apply IsS77.drew | apply IsS77.set_1 | apply IsS77.set_2) | exact HI0.out)); (case side2 => repeat (first | (with_reducible first | exact HB.out | apply below_alloc | apply pw_below_drewN | apply below_drew1 | refine below_set ?_ (IsS77.ge HI0.out)) | exact HB.out)); rintro e w6 ⟨rfl, hi, hb, hk⟩; refine ⟨_, rfl, ?_⟩; have n0_ := Aside0.mk (KeepBut.trans (by repeat (first | (with_reducible first | exact HK.out | apply KeepBut.set_ | apply keep_drewN | apply keep_drew | apply keep_alloc) | exact HK.out)) hk (.inl rfl)); have n1_ := Aside0.mk (hb); have n2_ := Aside0.mk (hi); clear HK; clear HB; clear HI0; have HK := n0_; have HB := n1_; have HI0 := n2_; clear n0_ n1_ n2_; (try clear hb); (try clear hb2); (try clear hk); (try clear hi)) | ((with_reducible refine gate_callee (f := 96) rfl ?_); refine goesL_ (some 19) rfl rfl Try.func96 (by kernel_rfl) rfl #[.int .i64 (wrap64 (1 + t118))] rfl (by (try simp only [List.map_toArray, List.map_cons, List.map_nil]); first | done | rfl | (simp only [List.length_drop, List.length_take]; rfl)) ?_; (with_reducible refine (spec_opCount.calls (wrap64 (1 + t118)) t121 _ A3.out).mono ?_); rintro e w' ⟨rfl, ⟨nd, rfl⟩⟩; refine ⟨_, rfl, ?_⟩) | ((with_reducible refine gate_dst (N := 20) rfl ?_); refine Kd.R_make (Kd.int .i64) _ 3 rfl (N := 20) rfl 32 _ _ rfl t121 rfl rfl Try.underlying32 (.int .i64 0) 8 info3 rfl (by decide) (by omega) 0 (ok := fun _ => True) (okp := fun _ => True) rfl (fun _ hk => hk) trivial (of_decide_eq_true (by first | (with_reducible assumption) | assumption)) (Nat.le_trans (Nat.mul_le_mul_right _ (of_decide_eq_true (by first | (with_reducible assumption) | assumption) : t121.toNat ≤ 35184372088832)) (by omega)) (Below.refl _ _) (Nat.le_refl _) ?_; intro v123 w7 ho8 hb hg_ hnew_; clear hg_ hnew_; (first | rw [← Ny122.out] at ho8 | (simp only [Int.reduceToNat] at ho8; rw [← Ny122.out] at ho8)); have n0_ := Aside0.mk (Kd.R_lower ho8 (keep_size (w := w) (g := g) (row := none) (by repeat (first | (with_reducible first | exact HK.out | apply KeepBut.set_ | apply keep_drewN | apply keep_drew | apply keep_alloc) | exact HK.out)))); have n1_ := Aside0.mk (IsS77.below (by repeat (first | (with_reducible first | exact HI0.out | apply IsS77.alloc | apply IsS77.drewN | apply IsS77.drew | apply IsS77.set_1 | apply IsS77.set_2) | exact HI0.out)) hb); have n2_ := Aside0.mk (KeepBut.trans (by repeat (first | (with_reducible first | exact HK.out | apply KeepBut.set_ | apply keep_drewN | apply keep_drew | apply keep_alloc) | exact HK.out)) (KeepBut.of_below hb g none) (.inl rfl)); have n3_ := Aside0.mk (below_step (by repeat (first | (with_reducible first | exact HB.out | apply below_alloc | apply pw_below_drewN | apply below_drew1 | refine below_set ?_ (IsS77.ge HI0.out)) | exact HB.out)) hb); clear HI0; clear HK; clear HB; have HO124 := n0_; have HI0 := n1_; have HK := n2_; have HB := n3_; clear n0_ n1_ n2_ n3_; clear hb ho8; obtain ⟨Ao9, co9, eo9⟩ := Kd.R_slice HO124.out; subst eo9))
      go_loopg [23] k (fun kq v23 w' => ∃ (x5_1 : List Int) (x23_1 : Int) (x1001_1 : Int) (x1002_1 : Int), v23 = .int .i64 x23_1 ∧ Aside0 (spec_l1Cur_opposite.l0 kq (wrap64 (1 + t118)) x5_1 (y122.length : Int) x23_1 s0_0 x1001_1 x1002_1 = some (r1, r2, r3, r4)) ∧ Aside0 (kq ≤ k) ∧ Aside0 (Kd.R (Kd.int .i64) 3 w' w.heap.size (fun _ => True) (.slice Ao9 y122.length co9) x5_1) ∧ Aside0 (IsS77 w0 w' g s0_0 x1001_1 x1002_1) ∧ Aside0 (KeepBut w w' g none) ∧ Aside0 (Below w0.heap.size w0 w'))
      case atStart => exact ⟨(y122), (0), (t119), (t120), (by first | rfl | (simp; done) | (simp [*]; done)), H', ⟨Nat.le_refl _⟩, ⟨by (with_reducible repeat (first | apply Kd.R_alloc | apply Kd.R_drewN | apply Kd.R_drew)); exact HO124.out⟩, ⟨by repeat (first | (with_reducible first | exact HI0.out | apply IsS77.alloc | apply IsS77.drewN | apply IsS77.drew | apply IsS77.set_1 | apply IsS77.set_2) | exact HI0.out)⟩, ⟨by repeat (first | (with_reducible first | exact HK.out | apply KeepBut.set_ | apply keep_drewN | apply keep_drew | apply keep_alloc) | exact HK.out)⟩, ⟨by repeat (first | (with_reducible first | exact HB.out | apply below_alloc | apply pw_below_drewN | apply below_drew1 | refine below_set ?_ (IsS77.ge HI0.out)) | exact HB.out)⟩⟩
      case round =>
        clear H'
        try clear c1
        try clear p2
        try clear c4
        try clear c4b0
        try clear c4b1
        try clear c5
        try clear c5b0
        try clear c5b1
        try clear p6
        try clear c8
        try clear c9
        obtain ⟨x5_1, x23_1, x1001_1, x1002_1, rfl, HA, HK1, HO_5, HI0, HK, HB⟩ := hrel
        have hl5_1 := (Kd.R_reads' HO_5.out).1
        rw [hl5_1] at HO_5
        (try simp only [hl5_1])
        cases gk with
        | zero => exact absurd HA.out (by simp [spec_l1Cur_opposite.l0])
        | succ k1 =>
          have H := HA.out
          clear HA
          simp only [spec_l1Cur_opposite.l0] at H
          by_cases c10 : x23_1 < (y122.length : Int)
          · rw [if_pos c10] at H
            have c10b0 : decide (x23_1 < (y122.length : Int)) = true := decide_eq_true c10
            try (have c10b0e0 := c10b0; simp only [hl5_1] at c10b0e0)
            clear c10
            obtain ⟨y125, hy125⟩ : ∃ y_ : List Int, y_ = (([1, 2, (-1), (-2)] : List Int)) := ⟨_, rfl⟩
            replace H : ((spec_l1Cur_among.f s0_0 x1001_1 x1002_1 y125).bind fun bt128 => (if 0 ≤ x23_1 then (if x23_1 < (x5_1.length : Int) then (spec_l1Cur_opposite.l0 k1 (wrap64 (1 + t118)) (x5_1.set (x23_1 : Int).toNat bt128.1) (y122.length : Int) (wrap64 (x23_1 + 1)) s0_0 bt128.2.1 bt128.2.2) else (none)) else (none))) = some (r1, r2, r3, r4) := by first | (rw [hy125]; with_reducible exact H) | (have H2_ := (Option.bind_some _ _).symm.trans H; rw [hy125]; with_reducible exact H2_) | (have H2_ := (Option.bind_some _ _).symm.trans H; with_reducible exact H2_) | with_reducible exact H | (rw [hy125]; exact H) | exact H
            have Ny125 := Aside0.mk hy125
            clear hy125
            replace H := Option.bind_eq_some_iff.mp H
            obtain ⟨⟨t128, t129, t130⟩, A110, H⟩ := H
            replace H : (if 0 ≤ x23_1 then (if x23_1 < (x5_1.length : Int) then (spec_l1Cur_opposite.l0 k1 (wrap64 (1 + t118)) (x5_1.set (x23_1 : Int).toNat t128) (y122.length : Int) (wrap64 (x23_1 + 1)) s0_0 t129 t130) else (none)) else (none)) = some (r1, r2, r3, r4) := H
            have A11 := Aside0.mk A110
            clear A110
            by_cases c12 : 0 ≤ x23_1
            · rw [if_pos c12] at H
              have c12b0 : decide (0 ≤ x23_1) = true := decide_eq_true c12
              clear c12
              by_cases c13 : x23_1 < (x5_1.length : Int)
              · rw [if_pos c13] at H
                have c13b0 : decide (x23_1 < (x5_1.length : Int)) = true := decide_eq_true c13
                try (have c13b0e0 := c13b0; simp only [hl5_1] at c13b0e0)
                clear c13
                obtain ⟨y131, hy131⟩ : ∃ y_ : List Int, y_ = (x5_1.set (x23_1 : Int).toNat t128) := ⟨_, rfl⟩
                replace H : (spec_l1Cur_opposite.l0 k1 (wrap64 (1 + t118)) y131 (y122.length : Int) (wrap64 (x23_1 + 1)) s0_0 t129 t130) = some (r1, r2, r3, r4) := by first | (rw [hy131]; with_reducible exact H) | (have H2_ := (Option.bind_some _ _).symm.trans H; rw [hy131]; with_reducible exact H2_) | (have H2_ := (Option.bind_some _ _).symm.trans H; with_reducible exact H2_) | with_reducible exact H | (rw [hy131]; exact H) | exact H
                have Ny131 := Aside0.mk hy131
                clear hy131
                have H' := Aside0.mk H
                clear H
                go_wp2_with (first | ((with_reducible refine gate_dst (N := 29) rfl ?_); refine Kd.R_lit (Kd.int .i64) _ 3 ?hg (N := 29) ?hd (xs := ([1, 2, (-1), (-2)] : List Int)) (inner := [.int .i64 1, .int .i64 2, .int .i64 (-1), .int .i64 (-2)]) (ok := fun _ => True) (okp := fun _ => True) ?hr ?hp (fun _ hk => hk) trivial (Below.refl _ _) (Nat.le_refl _) (by simp) ?_; (case hd => rfl); (case hg => rfl); (case hr => first | (go_simp; done) | (go_simp; rfl)); (case hp => exact (Reps.one (show Kd.M (Kd.int .i64) _ _ _ 1 [.int .i64 1] from rfl) (Reps.one (show Kd.M (Kd.int .i64) _ _ _ 2 [.int .i64 2] from rfl) (Reps.one (show Kd.M (Kd.int .i64) _ _ _ (-1) [.int .i64 (-1)] from rfl) (Reps.one (show Kd.M (Kd.int .i64) _ _ _ (-2) [.int .i64 (-2)] from rfl) (Reps.none _ _)))))); intro v126 w15 ho16 hb hg_ hnew_; clear hg_ hnew_; (first | rw [← Ny125.out] at ho16 | (simp only [Int.reduceToNat] at ho16; rw [← Ny125.out] at ho16)); have n0_ := Aside0.mk (Kd.R_elder' (by (with_reducible repeat (first | apply Kd.R_alloc | apply Kd.R_drewN | apply Kd.R_drew)); exact HO_5.out) (Kd.R_base ho16) hb); have n1_ := Aside0.mk (Kd.R_lower (Kd.R_new' ho16 (Kd.R_lt (by (with_reducible repeat (first | apply Kd.R_alloc | apply Kd.R_drewN | apply Kd.R_drew)); exact HO_5.out))) (keep_size (w := w) (g := g) (row := none) (by repeat (first | (with_reducible first | exact HK.out | apply KeepBut.set_ | apply keep_drewN | apply keep_drew | apply keep_alloc) | exact HK.out)))); have n2_ := Aside0.mk (IsS77.below (by repeat (first | (with_reducible first | exact HI0.out | apply IsS77.alloc | apply IsS77.drewN | apply IsS77.drew | apply IsS77.set_1 | apply IsS77.set_2) | exact HI0.out)) hb); have n3_ := Aside0.mk (KeepBut.trans (by repeat (first | (with_reducible first | exact HK.out | apply KeepBut.set_ | apply keep_drewN | apply keep_drew | apply keep_alloc) | exact HK.out)) (KeepBut.of_below hb g none) (.inl rfl)); have n4_ := Aside0.mk (below_step (by repeat (first | (with_reducible first | exact HB.out | apply below_alloc | apply pw_below_drewN | apply below_drew1 | refine below_set ?_ (IsS77.ge HI0.out)) | exact HB.out)) hb); clear HO_5; clear HI0; clear HK; clear HB; have HO_5 := n0_; have HO127 := n1_; have HI0 := n2_; have HK := n3_; have HB := n4_; clear n0_ n1_ n2_ n3_ n4_; clear hb ho16; obtain ⟨Ao17, co17, eo17⟩ := Kd.R_slice HO127.out; subst eo17) | ((with_reducible refine gate_callee (f := 119) rfl ?_); refine goesL_ (some 30) rfl rfl Try.func119 (by kernel_rfl) rfl #[.pointer (some ⟨g, 0, none⟩), .slice Ao17 y125.length co17] rfl (by (try simp only [List.map_toArray, List.map_cons, List.map_nil]); first | done | rfl | (simp only [List.length_drop, List.length_take]; rfl)) ?_; (with_reducible refine (spec_l1Cur_among.calls g s0_0 x1001_1 x1002_1 _ _ y125 t128 t129 t130 w0 _ ?side1 ?side2 ?side3 ?side4 ?side5 A11.out).mono ?_); (case side1 => repeat (first | (with_reducible first | exact HI0.out | apply IsS77.alloc | apply IsS77.drewN | apply IsS77.drew | apply IsS77.set_1 | apply IsS77.set_2) | exact HI0.out)); (case side2 => repeat (first | (with_reducible first | exact HB.out | apply below_alloc | apply pw_below_drewN | apply below_drew1 | refine below_set ?_ (IsS77.ge HI0.out)) | exact HB.out)); (case side3 => repeat (first | exact (Kd.R_reads' HO127.out).2.2 | (with_reducible refine Kd.C_alloc ?_ _) | (with_reducible refine Kd.C_drewN ?_ _) | (with_reducible refine Kd.C_drew ?_))); (case side4 => exact (Kd.R_reads' HO127.out).2.1); (case side5 => exact far_slice (IsS77.own_ne HI0.out HO127.out (by decide))); rintro e w18 ⟨rfl, hi, hb, hk⟩; refine ⟨_, rfl, ?_⟩; have n0_ := Aside0.mk (Kd.R_mono (Kd.R_keep (IsS77.apart (show IsS77 w0 _ g s0_0 x1001_1 x1002_1 from by repeat (first | (with_reducible first | exact HI0.out | apply IsS77.alloc | apply IsS77.drewN | apply IsS77.drew | apply IsS77.set_1 | apply IsS77.set_2) | exact HI0.out)) (by (with_reducible repeat (first | apply Kd.R_alloc | apply Kd.R_drewN | apply Kd.R_drew)); exact HO_5.out) (by decide)) hk (fun _ h => h.2)) (fun _ h => h.1)); have n1_ := Aside0.mk (Kd.R_mono (Kd.R_keep (IsS77.apart (show IsS77 w0 _ g s0_0 x1001_1 x1002_1 from by repeat (first | (with_reducible first | exact HI0.out | apply IsS77.alloc | apply IsS77.drewN | apply IsS77.drew | apply IsS77.set_1 | apply IsS77.set_2) | exact HI0.out)) (by (with_reducible repeat (first | apply Kd.R_alloc | apply Kd.R_drewN | apply Kd.R_drew)); exact HO127.out) (by decide)) hk (fun _ h => h.2)) (fun _ h => h.1)); have n2_ := Aside0.mk (KeepBut.trans (by repeat (first | (with_reducible first | exact HK.out | apply KeepBut.set_ | apply keep_drewN | apply keep_drew | apply keep_alloc) | exact HK.out)) hk (.inl rfl)); have n3_ := Aside0.mk (hb); have n4_ := Aside0.mk (hi); clear HO_5; clear HO127; clear HK; clear HB; clear HI0; have HO_5 := n0_; have HO127 := n1_; have HK := n2_; have HB := n3_; have HI0 := n4_; clear n0_ n1_ n2_ n3_ n4_; (try clear hb); (try clear hb2); (try clear hk); (try clear hi); have p14 : 0 ≤ (x23_1 : Int) := of_decide_eq_true (by first | (with_reducible assumption) | assumption); have q14 : (x23_1 : Int) < ((x5_1.length : Int) : Int) := of_decide_eq_true (by first | (with_reducible assumption) | assumption); obtain ⟨go14, co14, eo14, gb14, gl14, cl14, HG14⟩ := Kd.R_form HO_5.out (by omega); (first | cases eo14 | (injection eo14 with ea_ en_ ec_; (first | subst ea_ | (injection ea_ with ea_; subst ea_)); subst ec_; clear en_)); have GB14 := Aside0.mk gb14; have GG14 := Aside0.mk HG14; clear gb14 gl14 HG14; obtain ⟨hx14_0, hf14_0⟩ := Kd.R_celln 0 HO_5.out (x23_1 : Int) p14 q14; replace p14 := eq_true p14; replace q14 := eq_true q14; have n_ := Aside0.mk (Kd.R_mono (ok' := (fun k_ => some k_ ≠ (.slice Ao17 y125.length co17 : Value).ownBlock)) HO_5.out (fun k_ hk => hk.2)); clear HO_5; have HO_5 := n_; clear n_; obtain ⟨hy19_, hz19_⟩ := Kd.R_celln 0 HO_5.out (x23_1 : Int) (of_decide_eq_true (by first | (with_reducible assumption) | assumption)) (of_decide_eq_true (by first | (with_reducible assumption) | assumption)); have HP19 := Kd.R_putg HO_5.out (x23_1 : Int) t128) | ((with_reducible refine gate_store (t := 3) (p := 31) rfl ?_); refine store_event (t := 3) (p := 31) (v := ?vo_w20) (w1 := (w18.setCell ⟨go14, (x23_1 : Int).toNat, none⟩ (.int .i64 t128))) ?hg ?ho ?hn ?hr ?_; (case ho => rfl); (case hg => rfl); (case hn => rfl); (case hr => first | (go_simp; done) | (go_simp; rfl)); intro w20 hw; have hg : w18.grownBy w20 (some go14) := (by rw [hw]; exact HP19.2); have hp_ : Kd.R (Kd.int .i64) 3 w20 w.heap.size (fun k_ => some k_ ≠ (.slice Ao17 y125.length co17 : Value).ownBlock) (.slice (some ⟨go14, 0, none⟩) x5_1.length co9) y131 := (by rw [hw, Ny131.out]; exact HP19.1); clear HP19; have n0_ := Aside0.mk (hp_); have n1_ := Aside0.mk (IsS77.grown (by repeat (first | (with_reducible first | exact HI0.out | apply IsS77.alloc | apply IsS77.drewN | apply IsS77.drew | apply IsS77.set_1 | apply IsS77.set_2) | exact HI0.out)) hg (IsS77.own_ne HI0.out HO_5.out (by decide))); have n2_ := Aside0.mk (Kd.R_after (v := (.slice (some ⟨go14, 0, none⟩) x5_1.length co9)) (v1 := (.slice (some ⟨go14, 0, none⟩) x5_1.length co9)) (ok := (fun _ => True)) (by (with_reducible repeat (first | apply Kd.R_alloc | apply Kd.R_drewN | apply Kd.R_drew)); exact HO127.out) hg (.inl rfl)); have n3_ := Aside0.mk ((by rw [hw]; exact below_set (HB.out) (Nat.le_trans HL.out GB14.out) : Below w0.heap.size w0 w20)); have n4_ := Aside0.mk (KeepBut.trans (by repeat (first | (with_reducible first | exact HK.out | apply KeepBut.set_ | apply keep_drewN | apply keep_drew | apply keep_alloc) | exact HK.out)) (KeepBut.of_grown hg g) (Kd.R_base2 HO_5.out)); clear HO_5; clear HI0; clear HO127; clear HB; clear HK; have HO_5 := n0_; have HI0 := n1_; have HO127 := n2_; have HB := n3_; have HK := n4_; clear n0_ n1_ n2_ n3_ n4_; clear hg hw hp_))
                (try simp only [← hl5_1])
                go_roundg k1
                case measure => have := HK1.out; omega
                case rel => exact ⟨(y131), (wrap64 (x23_1 + 1)), (t129), (t130), (by first | rfl | (simp; done) | (simp [*]; done)), H', ⟨by have := HK1.out; omega⟩, ⟨by (try simp only [hl5_1]); (with_reducible repeat (first | apply Kd.R_alloc | apply Kd.R_drewN | apply Kd.R_drew)); exact Kd.R_mono HO_5.out (fun _ hk => trivial)⟩, ⟨by repeat (first | (with_reducible first | exact HI0.out | apply IsS77.alloc | apply IsS77.drewN | apply IsS77.drew | apply IsS77.set_1 | apply IsS77.set_2) | exact HI0.out)⟩, ⟨by repeat (first | (with_reducible first | exact HK.out | apply KeepBut.set_ | apply keep_drewN | apply keep_drew | apply keep_alloc) | exact HK.out)⟩, ⟨by repeat (first | (with_reducible first | exact HB.out | apply below_alloc | apply pw_below_drewN | apply below_drew1 | refine below_set ?_ (IsS77.ge HI0.out)) | exact HB.out)⟩⟩
              · rw [if_neg c13] at H
                exact absurd H (by simp)
            · rw [if_neg c12] at H
              exact absurd H (by simp)
          · rw [if_neg c10] at H
            have c10b0 : decide (x23_1 < (y122.length : Int)) = false := decide_eq_false c10
            try (have c10b0e0 := c10b0; simp only [hl5_1] at c10b0e0)
            clear c10
            replace H := Option.bind_eq_some_iff.mp H
            obtain ⟨⟨t132, t133, t134⟩, A210, H⟩ := H
            replace H : (if t132 = true then ((spec_l1Cur_pick.f s0_0 t133 t134 4).bind fun bt135 => (spec_l1Cur_opposite.l1 k1 (wrap64 (1 + t118)) x5_1 bt135.1 (x5_1.length : Int) 0 s0_0 bt135.2.1 bt135.2.2)) else (spec_l1Cur_opposite.j5 k1 (wrap64 (1 + t118)) x5_1 s0_0 t133 t134)) = some (r1, r2, r3, r4) := H
            have A21 := Aside0.mk A210
            clear A210
            have HC22 := Aside0.mk H
            clear H
            go_upto_if 34 with (first | ((with_reducible refine gate_callee (f := 120) rfl ?_); refine goesL_ (some 34) rfl rfl Try.func120 (by kernel_rfl) rfl #[.pointer (some ⟨g, 0, none⟩), .int .i64 2] rfl (by (try simp only [List.map_toArray, List.map_cons, List.map_nil]); first | done | rfl | (simp only [List.length_drop, List.length_take]; rfl)) ?_; (with_reducible refine (spec_l1Cur_one.calls g s0_0 x1001_1 x1002_1 2 t132 t133 t134 w0 _ ?side1 ?side2 A21.out).mono ?_); (case side1 => repeat (first | (with_reducible first | exact HI0.out | apply IsS77.alloc | apply IsS77.drewN | apply IsS77.drew | apply IsS77.set_1 | apply IsS77.set_2) | exact HI0.out)); (case side2 => repeat (first | (with_reducible first | exact HB.out | apply below_alloc | apply pw_below_drewN | apply below_drew1 | refine below_set ?_ (IsS77.ge HI0.out)) | exact HB.out)); rintro e w23 ⟨rfl, hi, hb, hk⟩; refine ⟨_, rfl, ?_⟩; have n0_ := Aside0.mk (Kd.R_mono (Kd.R_keep (IsS77.apart (show IsS77 w0 _ g s0_0 x1001_1 x1002_1 from by repeat (first | (with_reducible first | exact HI0.out | apply IsS77.alloc | apply IsS77.drewN | apply IsS77.drew | apply IsS77.set_1 | apply IsS77.set_2) | exact HI0.out)) (by (with_reducible repeat (first | apply Kd.R_alloc | apply Kd.R_drewN | apply Kd.R_drew)); exact HO_5.out) (by decide)) hk (fun _ h => h.2)) (fun _ h => h.1)); have n1_ := Aside0.mk (KeepBut.trans (by repeat (first | (with_reducible first | exact HK.out | apply KeepBut.set_ | apply keep_drewN | apply keep_drew | apply keep_alloc) | exact HK.out)) hk (.inl rfl)); have n2_ := Aside0.mk (hb); have n3_ := Aside0.mk (hi); clear HO_5; clear HK; clear HB; clear HI0; have HO_5 := n0_; have HK := n1_; have HB := n2_; have HI0 := n3_; clear n0_ n1_ n2_ n3_; (try clear hb); (try clear hb2); (try clear hk); (try clear hi)))
            (try simp only [Act.put, List.setIfInBounds_toArray, List.set_cons_zero, List.set_cons_succ])
            go_cut [] (fun wc => ∃ (kq : Nat) (x5_21 : List Int) (x1001_21 : Int) (x1002_21 : Int), Aside0 (spec_l1Cur_opposite.j5 kq (wrap64 (1 + t118)) x5_21 s0_0 x1001_21 x1002_21 = some (r1, r2, r3, r4)) ∧ Aside0 (kq ≤ k1) ∧ Aside0 (Kd.R (Kd.int .i64) 3 wc w.heap.size (fun _ => True) (.slice Ao9 x5_1.length co9) x5_21) ∧ Aside0 (IsS77 w0 wc g s0_0 x1001_21 x1002_21) ∧ Aside0 (KeepBut w wc g none) ∧ Aside0 (Below w0.heap.size w0 wc))
            case first =>
              have H := HC22.out
              clear HC22
              by_cases c24 : t132 = true
              · subst c24
                have H1 : ((spec_l1Cur_pick.f s0_0 t133 t134 4).bind fun bt135 => (spec_l1Cur_opposite.l1 k1 (wrap64 (1 + t118)) x5_1 bt135.1 (x5_1.length : Int) 0 s0_0 bt135.2.1 bt135.2.2)) = some (r1, r2, r3, r4) := by rw [if_pos rfl] at H; exact H
                clear H
                have H := H1
                clear H1
                replace H := Option.bind_eq_some_iff.mp H
                obtain ⟨⟨t135, t136, t137⟩, A250, H⟩ := H
                replace H : (spec_l1Cur_opposite.l1 k1 (wrap64 (1 + t118)) x5_1 t135 (x5_1.length : Int) 0 s0_0 t136 t137) = some (r1, r2, r3, r4) := H
                have A25 := Aside0.mk A250
                clear A250
                have H' := Aside0.mk H
                clear H
                go_wp2_with (first | ((with_reducible refine gate_callee (f := 87) rfl ?_); refine goesL_ (some 36) rfl rfl Try.func87 (by kernel_rfl) rfl #[.pointer (some ⟨g, 0, none⟩), .int .i64 4] rfl (by (try simp only [List.map_toArray, List.map_cons, List.map_nil]); first | done | rfl | (simp only [List.length_drop, List.length_take]; rfl)) ?_; (with_reducible refine (spec_l1Cur_pick.calls g s0_0 t133 t134 4 t135 t136 t137 w0 _ ?side1 ?side2 A25.out).mono ?_); (case side1 => repeat (first | (with_reducible first | exact HI0.out | apply IsS77.alloc | apply IsS77.drewN | apply IsS77.drew | apply IsS77.set_1 | apply IsS77.set_2) | exact HI0.out)); (case side2 => repeat (first | (with_reducible first | exact HB.out | apply below_alloc | apply pw_below_drewN | apply below_drew1 | refine below_set ?_ (IsS77.ge HI0.out)) | exact HB.out)); rintro e w26 ⟨rfl, hi, hb, hk⟩; refine ⟨_, rfl, ?_⟩; have n0_ := Aside0.mk (Kd.R_mono (Kd.R_keep (IsS77.apart (show IsS77 w0 _ g s0_0 t133 t134 from by repeat (first | (with_reducible first | exact HI0.out | apply IsS77.alloc | apply IsS77.drewN | apply IsS77.drew | apply IsS77.set_1 | apply IsS77.set_2) | exact HI0.out)) (by (with_reducible repeat (first | apply Kd.R_alloc | apply Kd.R_drewN | apply Kd.R_drew)); exact HO_5.out) (by decide)) hk (fun _ h => h.2)) (fun _ h => h.1)); have n1_ := Aside0.mk (KeepBut.trans (by repeat (first | (with_reducible first | exact HK.out | apply KeepBut.set_ | apply keep_drewN | apply keep_drew | apply keep_alloc) | exact HK.out)) hk (.inl rfl)); have n2_ := Aside0.mk (hb); have n3_ := Aside0.mk (hi); clear HO_5; clear HK; clear HB; clear HI0; have HO_5 := n0_; have HK := n1_; have HB := n2_; have HI0 := n3_; clear n0_ n1_ n2_ n3_; (try clear hb); (try clear hb2); (try clear hk); (try clear hi)))
                go_loopg [39] k1 (fun kq v39 w' => ∃ (x5_2 : List Int) (x39_2 : Int) (x1001_2 : Int) (x1002_2 : Int), v39 = .int .i64 x39_2 ∧ Aside0 (spec_l1Cur_opposite.l1 kq (wrap64 (1 + t118)) x5_2 t135 (x5_1.length : Int) x39_2 s0_0 x1001_2 x1002_2 = some (r1, r2, r3, r4)) ∧ Aside0 (kq ≤ k1) ∧ Aside0 (Kd.R (Kd.int .i64) 3 w' w.heap.size (fun _ => True) (.slice Ao9 x5_1.length co9) x5_2) ∧ Aside0 (IsS77 w0 w' g s0_0 x1001_2 x1002_2) ∧ Aside0 (KeepBut w w' g none) ∧ Aside0 (Below w0.heap.size w0 w'))
                case atStart => exact ⟨(x5_1), (0), (t136), (t137), (by first | rfl | (simp; done) | (simp [*]; done)), H', ⟨Nat.le_refl _⟩, ⟨by (try simp only [hl5_1]); (with_reducible repeat (first | apply Kd.R_alloc | apply Kd.R_drewN | apply Kd.R_drew)); exact HO_5.out⟩, ⟨by repeat (first | (with_reducible first | exact HI0.out | apply IsS77.alloc | apply IsS77.drewN | apply IsS77.drew | apply IsS77.set_1 | apply IsS77.set_2) | exact HI0.out)⟩, ⟨by repeat (first | (with_reducible first | exact HK.out | apply KeepBut.set_ | apply keep_drewN | apply keep_drew | apply keep_alloc) | exact HK.out)⟩, ⟨by repeat (first | (with_reducible first | exact HB.out | apply below_alloc | apply pw_below_drewN | apply below_drew1 | refine below_set ?_ (IsS77.ge HI0.out)) | exact HB.out)⟩⟩
                case round =>
                  clear H'
                  try clear c1
                  try clear p1
                  try clear q1
                  try clear hx1
                  try clear hf1
                  try clear c2
                  try clear p2
                  try clear c4
                  try clear c4b0
                  try clear c4b1
                  try clear c5
                  try clear c5b0
                  try clear c5b1
                  try clear p6
                  try clear c8
                  try clear c9
                  try clear c10
                  try clear c10b0
                  try clear c11
                  try clear c12
                  try clear c12b0
                  try clear c13
                  try clear c13b0
                  try clear p14
                  try clear q14
                  try clear hx14
                  try clear hf14
                  try clear c24
                  try clear hx14_0
                  try clear p14
                  try clear p2
                  try clear p6
                  try clear q14
                  obtain ⟨x5_2, x39_2, x1001_2, x1002_2, rfl, HA, HK2, HO_5, HI0, HK, HB⟩ := hrel
                  have hl5_2 := (Kd.R_reads' HO_5.out).1
                  rw [hl5_2] at HO_5
                  (try simp only [hl5_2])
                  cases gk with
                  | zero => exact absurd HA.out (by simp [spec_l1Cur_opposite.l1])
                  | succ k2 =>
                    have H := HA.out
                    clear HA
                    simp only [spec_l1Cur_opposite.l1] at H
                    by_cases c27 : x39_2 < (x5_1.length : Int)
                    · rw [if_pos c27] at H
                      have c27b0 : decide (x39_2 < (x5_1.length : Int)) = true := decide_eq_true c27
                      try (have c27b0e0 := c27b0; simp only [hl5_1] at c27b0e0)
                      try (have c27b0e1 := c27b0; simp only [hl5_2] at c27b0e1)
                      clear c27
                      (first | rw [c27b0] | (simp only [i64_w, i32_w]; rw [c27b0]) | skip)
                      replace H := Option.bind_eq_some_iff.mp H
                      obtain ⟨⟨t138, t139⟩, A280, H⟩ := H
                      replace H : (if t138 > 0 then (if t139 ≤ 0 then (spec_l1Cur_opposite.j2 k2 (wrap64 (1 + t118)) x5_2 t135 x39_2 t138 t139 3 (x5_1.length : Int) x39_2 (decide ((wrap64 (-t139)) ≤ t138)) s0_0 x1001_2 x1002_2) else (spec_l1Cur_opposite.j2 k2 (wrap64 (1 + t118)) x5_2 t135 x39_2 t138 t139 3 (x5_1.length : Int) x39_2 false s0_0 x1001_2 x1002_2)) else (spec_l1Cur_opposite.j2 k2 (wrap64 (1 + t118)) x5_2 t135 x39_2 t138 t139 3 (x5_1.length : Int) x39_2 false s0_0 x1001_2 x1002_2)) = some (r1, r2, r3, r4) := H
                      have A28 := Aside0.mk A280
                      clear A280
                      have HC29 := Aside0.mk H
                      clear H
                      go_upto_region 15 with (first | ((with_reducible refine gate_callee (f := 91) rfl ?_); refine goesL_ (some 45) rfl rfl Try.func91 (by kernel_rfl) rfl #[.int .i64 (wrap64 (1 + t118)), .int .i64 x39_2] rfl (by (try simp only [List.map_toArray, List.map_cons, List.map_nil]); first | done | rfl | (simp only [List.length_drop, List.length_take]; rfl)) ?_; (with_reducible refine (spec_opAt.calls (wrap64 (1 + t118)) x39_2 t138 t139 _ A28.out).mono ?_); rintro e w' ⟨rfl, ⟨nd, rfl⟩⟩; refine ⟨_, rfl, ?_⟩))
                      (try simp only [Act.put, List.setIfInBounds_toArray, List.set_cons_zero, List.set_cons_succ])
                      go_cut [48] (fun v48 wc => ∃ (kq : Nat) (x48_28 : Bool), v48 = .bool x48_28 ∧ Aside0 (spec_l1Cur_opposite.j2 kq (wrap64 (1 + t118)) x5_2 t135 x39_2 t138 t139 3 (x5_1.length : Int) x39_2 x48_28 s0_0 x1001_2 x1002_2 = some (r1, r2, r3, r4)) ∧ Aside0 (kq ≤ k2) ∧ Aside0 (Kd.R (Kd.int .i64) 3 wc w.heap.size (fun _ => True) (.slice Ao9 x5_2.length co9) x5_2) ∧ Aside0 (IsS77 w0 wc g s0_0 x1001_2 x1002_2) ∧ Aside0 (KeepBut w wc g none) ∧ Aside0 (Below w0.heap.size w0 wc))
                      case first =>
                        have H := HC29.out
                        clear HC29
                        by_cases c30 : t138 > 0
                        · rw [if_pos c30] at H
                          have c30b0 : decide (0 < t138) = true := decide_eq_true c30
                          clear c30
                          (first | rw [c30b0] | (simp only [i64_w, i32_w]; rw [c30b0]) | skip)
                          by_cases c31 : t139 ≤ 0
                          · rw [if_pos c31] at H
                            have c31b0 : decide (t139 ≤ 0) = true := decide_eq_true c31
                            clear c31
                            have H' := Aside0.mk H
                            clear H
                            go_wp2
                            go_meet
                            case rel => exact ⟨_, (decide ((wrap64 (-t139)) ≤ t138)), (by first | rfl | (simp; done) | (simp [*]; done)), H', ⟨by have := HK1.out; have := HK2.out; first | omega | exact Nat.le_refl _⟩, ⟨by (try simp only [hl5_1]); (try simp only [hl5_2]); (with_reducible repeat (first | apply Kd.R_alloc | apply Kd.R_drewN | apply Kd.R_drew)); exact HO_5.out⟩, ⟨by repeat (first | (with_reducible first | exact HI0.out | apply IsS77.alloc | apply IsS77.drewN | apply IsS77.drew | apply IsS77.set_1 | apply IsS77.set_2) | exact HI0.out)⟩, ⟨by repeat (first | (with_reducible first | exact HK.out | apply KeepBut.set_ | apply keep_drewN | apply keep_drew | apply keep_alloc) | exact HK.out)⟩, ⟨by repeat (first | (with_reducible first | exact HB.out | apply below_alloc | apply pw_below_drewN | apply below_drew1 | refine below_set ?_ (IsS77.ge HI0.out)) | exact HB.out)⟩⟩
                          · rw [if_neg c31] at H
                            have c31b0 : decide (t139 ≤ 0) = false := decide_eq_false c31
                            clear c31
                            have H' := Aside0.mk H
                            clear H
                            go_wp2
                            go_meet
                            case rel => exact ⟨_, (false), (by first | rfl | (simp; done) | (simp [*]; done)), H', ⟨by have := HK1.out; have := HK2.out; first | omega | exact Nat.le_refl _⟩, ⟨by (try simp only [hl5_1]); (try simp only [hl5_2]); (with_reducible repeat (first | apply Kd.R_alloc | apply Kd.R_drewN | apply Kd.R_drew)); exact HO_5.out⟩, ⟨by repeat (first | (with_reducible first | exact HI0.out | apply IsS77.alloc | apply IsS77.drewN | apply IsS77.drew | apply IsS77.set_1 | apply IsS77.set_2) | exact HI0.out)⟩, ⟨by repeat (first | (with_reducible first | exact HK.out | apply KeepBut.set_ | apply keep_drewN | apply keep_drew | apply keep_alloc) | exact HK.out)⟩, ⟨by repeat (first | (with_reducible first | exact HB.out | apply below_alloc | apply pw_below_drewN | apply below_drew1 | refine below_set ?_ (IsS77.ge HI0.out)) | exact HB.out)⟩⟩
                        · rw [if_neg c30] at H
                          have c30b0 : decide (0 < t138) = false := decide_eq_false c30
                          clear c30
                          (first | rw [c30b0] | (simp only [i64_w, i32_w]; rw [c30b0]) | skip)
                          have H' := Aside0.mk H
                          clear H
                          go_wp2
                          go_meet
                          case rel => exact ⟨_, (false), (by first | rfl | (simp; done) | (simp [*]; done)), H', ⟨by have := HK1.out; have := HK2.out; first | omega | exact Nat.le_refl _⟩, ⟨by (try simp only [hl5_1]); (try simp only [hl5_2]); (with_reducible repeat (first | apply Kd.R_alloc | apply Kd.R_drewN | apply Kd.R_drew)); exact HO_5.out⟩, ⟨by repeat (first | (with_reducible first | exact HI0.out | apply IsS77.alloc | apply IsS77.drewN | apply IsS77.drew | apply IsS77.set_1 | apply IsS77.set_2) | exact HI0.out)⟩, ⟨by repeat (first | (with_reducible first | exact HK.out | apply KeepBut.set_ | apply keep_drewN | apply keep_drew | apply keep_alloc) | exact HK.out)⟩, ⟨by repeat (first | (with_reducible first | exact HB.out | apply below_alloc | apply pw_below_drewN | apply below_drew1 | refine below_set ?_ (IsS77.ge HI0.out)) | exact HB.out)⟩⟩
                      case rest =>
                        clear HC29
                        try clear c1
                        try clear p1
                        try clear q1
                        try clear hx1
                        try clear hf1
                        try clear c2
                        try clear p2
                        try clear c3
                        try clear c4
                        try clear c4b0
                        try clear c4b1
                        try clear c5
                        try clear c5b0
                        try clear c5b1
                        try clear p6
                        try clear c8
                        try clear c9
                        try clear c10
                        try clear c10b0
                        try clear c11
                        try clear c12
                        try clear c12b0
                        try clear c13
                        try clear c13b0
                        try clear p14
                        try clear q14
                        try clear hx14
                        try clear hf14
                        try clear c24
                        try clear c27
                        try clear c27b0
                        try clear c30
                        try clear c30b0
                        try clear c31
                        try clear c31b0
                        try clear hx14_0
                        try clear p1
                        try clear p14
                        try clear p2
                        try clear p6
                        try clear q1
                        try clear q14
                        obtain ⟨kq, x48_28, rfl, HA, HJ28, HO_5, HI0, HK, HB⟩ := hcut
                        cases kq with
                        | zero => exact absurd HA.out (by simp [spec_l1Cur_opposite.j2])
                        | succ kj28 =>
                          have H := HA.out
                          clear HA
                          simp only [spec_l1Cur_opposite.j2] at H
                          by_cases c32 : x48_28 = true
                          · subst c32
                            have H1 : ((spec_l1Cur_one.f s0_0 x1001_2 x1002_2 9).bind fun bt140 => (if bt140.1 = true then (spec_l1Cur_opposite.l1 kj28 (wrap64 (1 + t118)) x5_2 t135 (x5_1.length : Int) (wrap64 (x39_2 + 1)) s0_0 bt140.2.1 bt140.2.2) else ((some (([1, 2, (-1), (-2)] : List Int) : List Int)).bind fun y143 => (if 0 ≤ (Int.tmod (wrap64 (0 + t135)) 4) then (if (Int.tmod (wrap64 (0 + t135)) 4) < (y143.length : Int) then (if 0 ≤ x39_2 then (if x39_2 < (x5_2.length : Int) then (spec_l1Cur_opposite.l1 kj28 (wrap64 (1 + t118)) (x5_2.set (x39_2 : Int).toNat (rd y143 (Int.tmod (wrap64 (0 + t135)) 4))) t135 (x5_1.length : Int) (wrap64 (x39_2 + 1)) s0_0 bt140.2.1 bt140.2.2) else (none)) else (none)) else (none)) else (none))))) = some (r1, r2, r3, r4) := by rw [if_pos rfl] at H; exact H
                            clear H
                            have H := H1
                            clear H1
                            replace H := Option.bind_eq_some_iff.mp H
                            obtain ⟨⟨t140, t141, t142⟩, A330, H⟩ := H
                            replace H : (if t140 = true then (spec_l1Cur_opposite.l1 kj28 (wrap64 (1 + t118)) x5_2 t135 (x5_1.length : Int) (wrap64 (x39_2 + 1)) s0_0 t141 t142) else ((some (([1, 2, (-1), (-2)] : List Int) : List Int)).bind fun y143 => (if 0 ≤ (Int.tmod (wrap64 (0 + t135)) 4) then (if (Int.tmod (wrap64 (0 + t135)) 4) < (y143.length : Int) then (if 0 ≤ x39_2 then (if x39_2 < (x5_2.length : Int) then (spec_l1Cur_opposite.l1 kj28 (wrap64 (1 + t118)) (x5_2.set (x39_2 : Int).toNat (rd y143 (Int.tmod (wrap64 (0 + t135)) 4))) t135 (x5_1.length : Int) (wrap64 (x39_2 + 1)) s0_0 t141 t142) else (none)) else (none)) else (none)) else (none)))) = some (r1, r2, r3, r4) := H
                            have A33 := Aside0.mk A330
                            clear A330
                            by_cases c34 : t140 = true
                            · subst c34
                              have H1 : (spec_l1Cur_opposite.l1 kj28 (wrap64 (1 + t118)) x5_2 t135 (x5_1.length : Int) (wrap64 (x39_2 + 1)) s0_0 t141 t142) = some (r1, r2, r3, r4) := by rw [if_pos rfl] at H; exact H
                              clear H
                              have H := H1
                              clear H1
                              have H' := Aside0.mk H
                              clear H
                              go_wp2_with (first | ((with_reducible refine gate_callee (f := 120) rfl ?_); refine goesL_ (some 84) rfl rfl Try.func120 (by kernel_rfl) rfl #[.pointer (some ⟨g, 0, none⟩), .int .i64 9] rfl (by (try simp only [List.map_toArray, List.map_cons, List.map_nil]); first | done | rfl | (simp only [List.length_drop, List.length_take]; rfl)) ?_; (with_reducible refine (spec_l1Cur_one.calls g s0_0 x1001_2 x1002_2 9 true t141 t142 w0 _ ?side1 ?side2 A33.out).mono ?_); (case side1 => repeat (first | (with_reducible first | exact HI0.out | apply IsS77.alloc | apply IsS77.drewN | apply IsS77.drew | apply IsS77.set_1 | apply IsS77.set_2) | exact HI0.out)); (case side2 => repeat (first | (with_reducible first | exact HB.out | apply below_alloc | apply pw_below_drewN | apply below_drew1 | refine below_set ?_ (IsS77.ge HI0.out)) | exact HB.out)); rintro e w35 ⟨rfl, hi, hb, hk⟩; refine ⟨_, rfl, ?_⟩; have n0_ := Aside0.mk (Kd.R_mono (Kd.R_keep (IsS77.apart (show IsS77 w0 _ g s0_0 x1001_2 x1002_2 from by repeat (first | (with_reducible first | exact HI0.out | apply IsS77.alloc | apply IsS77.drewN | apply IsS77.drew | apply IsS77.set_1 | apply IsS77.set_2) | exact HI0.out)) (by (with_reducible repeat (first | apply Kd.R_alloc | apply Kd.R_drewN | apply Kd.R_drew)); exact HO_5.out) (by decide)) hk (fun _ h => h.2)) (fun _ h => h.1)); have n1_ := Aside0.mk (KeepBut.trans (by repeat (first | (with_reducible first | exact HK.out | apply KeepBut.set_ | apply keep_drewN | apply keep_drew | apply keep_alloc) | exact HK.out)) hk (.inl rfl)); have n2_ := Aside0.mk (hb); have n3_ := Aside0.mk (hi); clear HO_5; clear HK; clear HB; clear HI0; have HO_5 := n0_; have HK := n1_; have HB := n2_; have HI0 := n3_; clear n0_ n1_ n2_ n3_; (try clear hb); (try clear hb2); (try clear hk); (try clear hi)))
                              (try simp only [← hl5_2])
                              go_roundg kj28
                              case measure => have := HK1.out; have := HK2.out; have := HJ28.out; omega
                              case rel => exact ⟨(x5_2), (wrap64 (x39_2 + 1)), (t141), (t142), (by first | rfl | (simp; done) | (simp [*]; done)), H', ⟨by have := HK1.out; have := HK2.out; have := HJ28.out; omega⟩, ⟨by (try simp only [hl5_1]); (try simp only [hl5_2]); (with_reducible repeat (first | apply Kd.R_alloc | apply Kd.R_drewN | apply Kd.R_drew)); exact HO_5.out⟩, ⟨by repeat (first | (with_reducible first | exact HI0.out | apply IsS77.alloc | apply IsS77.drewN | apply IsS77.drew | apply IsS77.set_1 | apply IsS77.set_2) | exact HI0.out)⟩, ⟨by repeat (first | (with_reducible first | exact HK.out | apply KeepBut.set_ | apply keep_drewN | apply keep_drew | apply keep_alloc) | exact HK.out)⟩, ⟨by repeat (first | (with_reducible first | exact HB.out | apply below_alloc | apply pw_below_drewN | apply below_drew1 | refine below_set ?_ (IsS77.ge HI0.out)) | exact HB.out)⟩⟩
                            · replace c34 := Bool.eq_false_iff.mpr c34
                              subst c34
                              have H1 : ((some (([1, 2, (-1), (-2)] : List Int) : List Int)).bind fun y143 => (if 0 ≤ (Int.tmod (wrap64 (0 + t135)) 4) then (if (Int.tmod (wrap64 (0 + t135)) 4) < (y143.length : Int) then (if 0 ≤ x39_2 then (if x39_2 < (x5_2.length : Int) then (spec_l1Cur_opposite.l1 kj28 (wrap64 (1 + t118)) (x5_2.set (x39_2 : Int).toNat (rd y143 (Int.tmod (wrap64 (0 + t135)) 4))) t135 (x5_1.length : Int) (wrap64 (x39_2 + 1)) s0_0 t141 t142) else (none)) else (none)) else (none)) else (none))) = some (r1, r2, r3, r4) := by rw [if_neg (show ¬ (false = true) by decide)] at H; exact H
                              clear H
                              have H := H1
                              clear H1
                              obtain ⟨y143, hy143⟩ : ∃ y_ : List Int, y_ = (([1, 2, (-1), (-2)] : List Int)) := ⟨_, rfl⟩
                              replace H : (if 0 ≤ (Int.tmod (wrap64 (0 + t135)) 4) then (if (Int.tmod (wrap64 (0 + t135)) 4) < (y143.length : Int) then (if 0 ≤ x39_2 then (if x39_2 < (x5_2.length : Int) then (spec_l1Cur_opposite.l1 kj28 (wrap64 (1 + t118)) (x5_2.set (x39_2 : Int).toNat (rd y143 (Int.tmod (wrap64 (0 + t135)) 4))) t135 (x5_1.length : Int) (wrap64 (x39_2 + 1)) s0_0 t141 t142) else (none)) else (none)) else (none)) else (none)) = some (r1, r2, r3, r4) := by first | (rw [hy143]; with_reducible exact H) | (have H2_ := (Option.bind_some _ _).symm.trans H; rw [hy143]; with_reducible exact H2_) | (have H2_ := (Option.bind_some _ _).symm.trans H; with_reducible exact H2_) | with_reducible exact H | (rw [hy143]; exact H) | exact H
                              have Ny143 := Aside0.mk hy143
                              clear hy143
                              obtain ⟨ji36, hji36⟩ : ∃ j_ : Int, (Int.tmod (wrap64 (0 + t135)) 4) = j_ := ⟨_, rfl⟩
                              have hjx36 : Int.tmod (IntKind.i64.wrap (0 + t135)) (4 : Int) = ji36 := (congrArg (fun z => Int.tmod z (4 : Int)) (IntWalk.i64_left (0 + t135))).trans hji36
                              have hjy36 : Int.tmod (wrap64 (t135)) (4 : Int) = ji36 := (by rw [Int.zero_add] at hji36; exact hji36)
                              have hjz36 : Int.tmod (IntKind.i64.wrap (t135)) (4 : Int) = ji36 := (congrArg (fun z => Int.tmod z (4 : Int)) (IntWalk.i64_left (t135))).trans hjy36
                              replace H : (if 0 ≤ (ji36) then (if (ji36) < (y143.length : Int) then (if 0 ≤ x39_2 then (if x39_2 < (x5_2.length : Int) then (spec_l1Cur_opposite.l1 kj28 (wrap64 (1 + t118)) (x5_2.set (x39_2 : Int).toNat (rd y143 (ji36))) t135 (x5_1.length : Int) (wrap64 (x39_2 + 1)) s0_0 t141 t142) else (none)) else (none)) else (none)) else (none)) = some (r1, r2, r3, r4) := by first | (rw [hji36] at H; exact H) | (simp only [hji36] at H ⊢; exact H)
                              (try rw [hji36] at A33)
                              by_cases c37 : 0 ≤ (ji36)
                              · rw [if_pos c37] at H
                                have c37b0 : decide (0 ≤ (ji36)) = true := decide_eq_true c37
                                clear c37
                                by_cases c38 : (ji36) < (y143.length : Int)
                                · rw [if_pos c38] at H
                                  have c38b0 : decide ((ji36) < (y143.length : Int)) = true := decide_eq_true c38
                                  try (have c38b0e0 := c38b0; simp only [hl5_1] at c38b0e0)
                                  try (have c38b0e1 := c38b0; simp only [hl5_2] at c38b0e1)
                                  clear c38
                                  by_cases c39 : 0 ≤ x39_2
                                  · rw [if_pos c39] at H
                                    have c39b0 : decide (0 ≤ x39_2) = true := decide_eq_true c39
                                    clear c39
                                    by_cases c40 : x39_2 < (x5_2.length : Int)
                                    · rw [if_pos c40] at H
                                      have c40b0 : decide (x39_2 < (x5_2.length : Int)) = true := decide_eq_true c40
                                      try (have c40b0e0 := c40b0; simp only [hl5_1] at c40b0e0)
                                      try (have c40b0e1 := c40b0; simp only [hl5_2] at c40b0e1)
                                      clear c40
                                      obtain ⟨y147, hy147⟩ : ∃ y_ : List Int, y_ = (x5_2.set (x39_2 : Int).toNat (rd y143 (ji36))) := ⟨_, rfl⟩
                                      replace H : (spec_l1Cur_opposite.l1 kj28 (wrap64 (1 + t118)) y147 t135 (x5_1.length : Int) (wrap64 (x39_2 + 1)) s0_0 t141 t142) = some (r1, r2, r3, r4) := by first | (rw [hy147]; with_reducible exact H) | (have H2_ := (Option.bind_some _ _).symm.trans H; rw [hy147]; with_reducible exact H2_) | (have H2_ := (Option.bind_some _ _).symm.trans H; with_reducible exact H2_) | with_reducible exact H | (rw [hy147]; exact H) | exact H
                                      have Ny147 := Aside0.mk hy147
                                      clear hy147
                                      have H' := Aside0.mk H
                                      clear H
                                      go_wp2_with (first | ((with_reducible refine gate_callee (f := 120) rfl ?_); refine goesL_ (some 84) rfl rfl Try.func120 (by kernel_rfl) rfl #[.pointer (some ⟨g, 0, none⟩), .int .i64 9] rfl (by (try simp only [List.map_toArray, List.map_cons, List.map_nil]); first | done | rfl | (simp only [List.length_drop, List.length_take]; rfl)) ?_; (with_reducible refine (spec_l1Cur_one.calls g s0_0 x1001_2 x1002_2 9 false t141 t142 w0 _ ?side1 ?side2 A33.out).mono ?_); (case side1 => repeat (first | (with_reducible first | exact HI0.out | apply IsS77.alloc | apply IsS77.drewN | apply IsS77.drew | apply IsS77.set_1 | apply IsS77.set_2) | exact HI0.out)); (case side2 => repeat (first | (with_reducible first | exact HB.out | apply below_alloc | apply pw_below_drewN | apply below_drew1 | refine below_set ?_ (IsS77.ge HI0.out)) | exact HB.out)); rintro e w42 ⟨rfl, hi, hb, hk⟩; refine ⟨_, rfl, ?_⟩; have n0_ := Aside0.mk (Kd.R_mono (Kd.R_keep (IsS77.apart (show IsS77 w0 _ g s0_0 x1001_2 x1002_2 from by repeat (first | (with_reducible first | exact HI0.out | apply IsS77.alloc | apply IsS77.drewN | apply IsS77.drew | apply IsS77.set_1 | apply IsS77.set_2) | exact HI0.out)) (by (with_reducible repeat (first | apply Kd.R_alloc | apply Kd.R_drewN | apply Kd.R_drew)); exact HO_5.out) (by decide)) hk (fun _ h => h.2)) (fun _ h => h.1)); have n1_ := Aside0.mk (KeepBut.trans (by repeat (first | (with_reducible first | exact HK.out | apply KeepBut.set_ | apply keep_drewN | apply keep_drew | apply keep_alloc) | exact HK.out)) hk (.inl rfl)); have n2_ := Aside0.mk (hb); have n3_ := Aside0.mk (hi); clear HO_5; clear HK; clear HB; clear HI0; have HO_5 := n0_; have HK := n1_; have HB := n2_; have HI0 := n3_; clear n0_ n1_ n2_ n3_; (try clear hb); (try clear hb2); (try clear hk); (try clear hi)) | ((with_reducible refine gate_dst (N := 88) rfl ?_); refine Kd.R_lit (Kd.int .i64) _ 3 ?hg (N := 88) ?hd (xs := ([1, 2, (-1), (-2)] : List Int)) (inner := [.int .i64 1, .int .i64 2, .int .i64 (-1), .int .i64 (-2)]) (ok := fun _ => True) (okp := fun _ => True) ?hr ?hp (fun _ hk => hk) trivial (Below.refl _ _) (Nat.le_refl _) (by simp) ?_; (case hd => rfl); (case hg => rfl); (case hr => first | (go_simp; done) | (go_simp; rfl)); (case hp => exact (Reps.one (show Kd.M (Kd.int .i64) _ _ _ 1 [.int .i64 1] from rfl) (Reps.one (show Kd.M (Kd.int .i64) _ _ _ 2 [.int .i64 2] from rfl) (Reps.one (show Kd.M (Kd.int .i64) _ _ _ (-1) [.int .i64 (-1)] from rfl) (Reps.one (show Kd.M (Kd.int .i64) _ _ _ (-2) [.int .i64 (-2)] from rfl) (Reps.none _ _)))))); intro v144 w43 ho44 hb hg_ hnew_; clear hg_ hnew_; (first | rw [← Ny143.out] at ho44 | (simp only [Int.reduceToNat] at ho44; rw [← Ny143.out] at ho44)); have n0_ := Aside0.mk (Kd.R_elder' (by (with_reducible repeat (first | apply Kd.R_alloc | apply Kd.R_drewN | apply Kd.R_drew)); exact HO_5.out) (Kd.R_base ho44) hb); have n1_ := Aside0.mk (Kd.R_lower (Kd.R_new' ho44 (Kd.R_lt (by (with_reducible repeat (first | apply Kd.R_alloc | apply Kd.R_drewN | apply Kd.R_drew)); exact HO_5.out))) (keep_size (w := w) (g := g) (row := none) (by repeat (first | (with_reducible first | exact HK.out | apply KeepBut.set_ | apply keep_drewN | apply keep_drew | apply keep_alloc) | exact HK.out)))); have n2_ := Aside0.mk (IsS77.below (by repeat (first | (with_reducible first | exact HI0.out | apply IsS77.alloc | apply IsS77.drewN | apply IsS77.drew | apply IsS77.set_1 | apply IsS77.set_2) | exact HI0.out)) hb); have n3_ := Aside0.mk (KeepBut.trans (by repeat (first | (with_reducible first | exact HK.out | apply KeepBut.set_ | apply keep_drewN | apply keep_drew | apply keep_alloc) | exact HK.out)) (KeepBut.of_below hb g none) (.inl rfl)); have n4_ := Aside0.mk (below_step (by repeat (first | (with_reducible first | exact HB.out | apply below_alloc | apply pw_below_drewN | apply below_drew1 | refine below_set ?_ (IsS77.ge HI0.out)) | exact HB.out)) hb); clear HO_5; clear HI0; clear HK; clear HB; have HO_5 := n0_; have HO145 := n1_; have HI0 := n2_; have HK := n3_; have HB := n4_; clear n0_ n1_ n2_ n3_ n4_; clear hb ho44; obtain ⟨Ao45, co45, eo45⟩ := Kd.R_slice HO145.out; subst eo45; have p146 : 0 ≤ ((ji36) : Int) := of_decide_eq_true (by first | (with_reducible assumption) | assumption); have q146 : (ji36) < (y143.length : Int) := of_decide_eq_true (by first | (with_reducible assumption) | assumption); obtain ⟨ad146, e146, hx146_0⟩ := Kd.at_int (Kd.R_reads' HO145.out).2.2 (ji36) p146 q146; cases e146; replace p146 := eq_true p146; replace q146 := eq_true q146; have p41 : 0 ≤ (x39_2 : Int) := of_decide_eq_true (by first | (with_reducible assumption) | assumption); have q41 : (x39_2 : Int) < ((x5_2.length : Int) : Int) := of_decide_eq_true (by first | (with_reducible assumption) | assumption); obtain ⟨go41, co41, eo41, gb41, gl41, cl41, HG41⟩ := Kd.R_form HO_5.out (by omega); (first | cases eo41 | (injection eo41 with ea_ en_ ec_; (first | subst ea_ | (injection ea_ with ea_; subst ea_)); subst ec_; clear en_)); have GB41 := Aside0.mk gb41; have GG41 := Aside0.mk HG41; clear gb41 gl41 HG41; obtain ⟨hx41_0, hf41_0⟩ := Kd.R_celln 0 HO_5.out (x39_2 : Int) p41 q41; replace p41 := eq_true p41; replace q41 := eq_true q41; have n_ := Aside0.mk (Kd.R_mono (ok' := (fun k_ => some k_ ≠ (.slice (some ad146) y143.length co45 : Value).ownBlock)) HO_5.out (fun k_ hk => hk.2)); clear HO_5; have HO_5 := n_; clear n_; obtain ⟨hy46_, hz46_⟩ := Kd.R_celln 0 HO_5.out (x39_2 : Int) (of_decide_eq_true (by first | (with_reducible assumption) | assumption)) (of_decide_eq_true (by first | (with_reducible assumption) | assumption)); have HP46 := Kd.R_putg HO_5.out (x39_2 : Int) (rd y143 (ji36))) | ((with_reducible refine gate_store (t := 3) (p := 95) rfl ?_); refine store_event (t := 3) (p := 95) (v := ?vo_w47) (w1 := (w43.setCell ⟨go41, (x39_2 : Int).toNat, none⟩ (.int .i64 (rd y143 (ji36))))) ?hg ?ho ?hn ?hr ?_; (case ho => rfl); (case hg => rfl); (case hn => rfl); (case hr => first | (go_simp; done) | (go_simp; rfl)); intro w47 hw; have hg : w43.grownBy w47 (some go41) := (by rw [hw]; exact HP46.2); have hp_ : Kd.R (Kd.int .i64) 3 w47 w.heap.size (fun k_ => some k_ ≠ (.slice (some ad146) y143.length co45 : Value).ownBlock) (.slice (some ⟨go41, 0, none⟩) x5_2.length co9) y147 := (by rw [hw, Ny147.out]; exact HP46.1); clear HP46; have n0_ := Aside0.mk (hp_); have n1_ := Aside0.mk (IsS77.grown (by repeat (first | (with_reducible first | exact HI0.out | apply IsS77.alloc | apply IsS77.drewN | apply IsS77.drew | apply IsS77.set_1 | apply IsS77.set_2) | exact HI0.out)) hg (IsS77.own_ne HI0.out HO_5.out (by decide))); have n2_ := Aside0.mk (Kd.R_after (v := (.slice (some ⟨go41, 0, none⟩) x5_2.length co9)) (v1 := (.slice (some ⟨go41, 0, none⟩) x5_2.length co9)) (ok := (fun _ => True)) (by (with_reducible repeat (first | apply Kd.R_alloc | apply Kd.R_drewN | apply Kd.R_drew)); exact HO145.out) hg (.inl rfl)); have n3_ := Aside0.mk ((by rw [hw]; exact below_set (HB.out) (Nat.le_trans HL.out GB41.out) : Below w0.heap.size w0 w47)); have n4_ := Aside0.mk (KeepBut.trans (by repeat (first | (with_reducible first | exact HK.out | apply KeepBut.set_ | apply keep_drewN | apply keep_drew | apply keep_alloc) | exact HK.out)) (KeepBut.of_grown hg g) (Kd.R_base2 HO_5.out)); clear HO_5; clear HI0; clear HO145; clear HB; clear HK; have HO_5 := n0_; have HI0 := n1_; have HO145 := n2_; have HB := n3_; have HK := n4_; clear n0_ n1_ n2_ n3_ n4_; clear hg hw hp_))
                                      (try simp only [← hl5_2])
                                      go_roundg kj28
                                      case measure => have := HK1.out; have := HK2.out; have := HJ28.out; omega
                                      case rel => exact ⟨(y147), (wrap64 (x39_2 + 1)), (t141), (t142), (by first | rfl | (simp; done) | (simp [*]; done)), H', ⟨by have := HK1.out; have := HK2.out; have := HJ28.out; omega⟩, ⟨by (try simp only [hl5_1]); (try simp only [hl5_2]); (with_reducible repeat (first | apply Kd.R_alloc | apply Kd.R_drewN | apply Kd.R_drew)); exact Kd.R_mono HO_5.out (fun _ hk => trivial)⟩, ⟨by repeat (first | (with_reducible first | exact HI0.out | apply IsS77.alloc | apply IsS77.drewN | apply IsS77.drew | apply IsS77.set_1 | apply IsS77.set_2) | exact HI0.out)⟩, ⟨by repeat (first | (with_reducible first | exact HK.out | apply KeepBut.set_ | apply keep_drewN | apply keep_drew | apply keep_alloc) | exact HK.out)⟩, ⟨by repeat (first | (with_reducible first | exact HB.out | apply below_alloc | apply pw_below_drewN | apply below_drew1 | refine below_set ?_ (IsS77.ge HI0.out)) | exact HB.out)⟩⟩
                                    · rw [if_neg c40] at H
                                      exact absurd H (by simp)
                                  · rw [if_neg c39] at H
                                    exact absurd H (by simp)
                                · rw [if_neg c38] at H
                                  exact absurd H (by simp)
                              · rw [if_neg c37] at H
                                exact absurd H (by simp)
                          · replace c32 := Bool.eq_false_iff.mpr c32
                            subst c32
                            have H1 : (if t139 > 0 then ((spec_l1Abs.f t138).bind fun t148 => (spec_l1Cur_opposite.j3 kj28 (wrap64 (1 + t118)) x5_2 t135 x39_2 t138 t139 3 (x5_1.length : Int) x39_2 (decide (t148 ≤ t139)) s0_0 x1001_2 x1002_2)) else (spec_l1Cur_opposite.j3 kj28 (wrap64 (1 + t118)) x5_2 t135 x39_2 t138 t139 3 (x5_1.length : Int) x39_2 false s0_0 x1001_2 x1002_2)) = some (r1, r2, r3, r4) := by rw [if_neg (show ¬ (false = true) by decide)] at H; exact H
                            clear H
                            have H := H1
                            clear H1
                            have HC48 := Aside0.mk H
                            clear H
                            go_upto_region 17 with (fail)
                            go_cut [61] (fun v61 wc => ∃ (kq : Nat) (x61_47 : Bool), v61 = .bool x61_47 ∧ Aside0 (spec_l1Cur_opposite.j3 kq (wrap64 (1 + t118)) x5_2 t135 x39_2 t138 t139 3 (x5_1.length : Int) x39_2 x61_47 s0_0 x1001_2 x1002_2 = some (r1, r2, r3, r4)) ∧ Aside0 (kq ≤ kj28) ∧ Aside0 (Kd.R (Kd.int .i64) 3 wc w.heap.size (fun _ => True) (.slice Ao9 x5_2.length co9) x5_2) ∧ Aside0 (IsS77 w0 wc g s0_0 x1001_2 x1002_2) ∧ Aside0 (KeepBut w wc g none) ∧ Aside0 (Below w0.heap.size w0 wc))
                            case first =>
                              have H := HC48.out
                              clear HC48
                              by_cases c49 : t139 > 0
                              · rw [if_pos c49] at H
                                have c49b0 : decide (0 < t139) = true := decide_eq_true c49
                                clear c49
                                (first | rw [c49b0] | (simp only [i64_w, i32_w]; rw [c49b0]) | skip)
                                replace H := Option.bind_eq_some_iff.mp H
                                obtain ⟨t148, A500, H⟩ := H
                                replace H : (spec_l1Cur_opposite.j3 kj28 (wrap64 (1 + t118)) x5_2 t135 x39_2 t138 t139 3 (x5_1.length : Int) x39_2 (decide (t148 ≤ t139)) s0_0 x1001_2 x1002_2) = some (r1, r2, r3, r4) := H
                                have A50 := Aside0.mk A500
                                clear A500
                                have H' := Aside0.mk H
                                clear H
                                go_wp2_with (first | (go_at_call 121; (with_reducible refine (spec_l1Abs.calls t138 t148 _ A50.out).mono ?_); rintro e w' ⟨rfl, ⟨nd, rfl⟩⟩))
                                go_meet
                                case rel => exact ⟨_, (decide (t148 ≤ t139)), (by first | rfl | (simp; done) | (simp [*]; done)), H', ⟨by have := HK1.out; have := HK2.out; have := HJ28.out; first | omega | exact Nat.le_refl _⟩, ⟨by (try simp only [hl5_1]); (try simp only [hl5_2]); (with_reducible repeat (first | apply Kd.R_alloc | apply Kd.R_drewN | apply Kd.R_drew)); exact HO_5.out⟩, ⟨by repeat (first | (with_reducible first | exact HI0.out | apply IsS77.alloc | apply IsS77.drewN | apply IsS77.drew | apply IsS77.set_1 | apply IsS77.set_2) | exact HI0.out)⟩, ⟨by repeat (first | (with_reducible first | exact HK.out | apply KeepBut.set_ | apply keep_drewN | apply keep_drew | apply keep_alloc) | exact HK.out)⟩, ⟨by repeat (first | (with_reducible first | exact HB.out | apply below_alloc | apply pw_below_drewN | apply below_drew1 | refine below_set ?_ (IsS77.ge HI0.out)) | exact HB.out)⟩⟩
                              · rw [if_neg c49] at H
                                have c49b0 : decide (0 < t139) = false := decide_eq_false c49
                                clear c49
                                (first | rw [c49b0] | (simp only [i64_w, i32_w]; rw [c49b0]) | skip)
                                have H' := Aside0.mk H
                                clear H
                                go_wp2
                                go_meet
                                case rel => exact ⟨_, (false), (by first | rfl | (simp; done) | (simp [*]; done)), H', ⟨by have := HK1.out; have := HK2.out; have := HJ28.out; first | omega | exact Nat.le_refl _⟩, ⟨by (try simp only [hl5_1]); (try simp only [hl5_2]); (with_reducible repeat (first | apply Kd.R_alloc | apply Kd.R_drewN | apply Kd.R_drew)); exact HO_5.out⟩, ⟨by repeat (first | (with_reducible first | exact HI0.out | apply IsS77.alloc | apply IsS77.drewN | apply IsS77.drew | apply IsS77.set_1 | apply IsS77.set_2) | exact HI0.out)⟩, ⟨by repeat (first | (with_reducible first | exact HK.out | apply KeepBut.set_ | apply keep_drewN | apply keep_drew | apply keep_alloc) | exact HK.out)⟩, ⟨by repeat (first | (with_reducible first | exact HB.out | apply below_alloc | apply pw_below_drewN | apply below_drew1 | refine below_set ?_ (IsS77.ge HI0.out)) | exact HB.out)⟩⟩
                            case rest =>
                              clear HC48
                              try clear c1
                              try clear p1
                              try clear q1
                              try clear hx1
                              try clear hf1
                              try clear c2
                              try clear p2
                              try clear c3
                              try clear c4
                              try clear c4b0
                              try clear c4b1
                              try clear p4
                              try clear q4
                              try clear hx4
                              try clear hf4
                              try clear c5
                              try clear c5b0
                              try clear c5b1
                              try clear p6
                              try clear c8
                              try clear c9
                              try clear c10
                              try clear c10b0
                              try clear c11
                              try clear c12
                              try clear c12b0
                              try clear c13
                              try clear c13b0
                              try clear p14
                              try clear q14
                              try clear hx14
                              try clear hf14
                              try clear c24
                              try clear c27
                              try clear c27b0
                              try clear c30
                              try clear c30b0
                              try clear c31
                              try clear c31b0
                              try clear c32
                              try clear c34
                              try clear c37
                              try clear c37b0
                              try clear c38
                              try clear c38b0
                              try clear c39
                              try clear c39b0
                              try clear c40
                              try clear c40b0
                              try clear p41
                              try clear q41
                              try clear hx41
                              try clear hf41
                              try clear c49
                              try clear c49b0
                              try clear hx146_0
                              try clear hx14_0
                              try clear hx41_0
                              try clear p1
                              try clear p14
                              try clear p146
                              try clear p2
                              try clear p41
                              try clear p6
                              try clear q1
                              try clear q14
                              try clear q146
                              try clear q41
                              obtain ⟨kq, x61_47, rfl, HA, HJ47, HO_5, HI0, HK, HB⟩ := hcut
                              cases kq with
                              | zero => exact absurd HA.out (by simp [spec_l1Cur_opposite.j3])
                              | succ kj47 =>
                                have H := HA.out
                                clear HA
                                simp only [spec_l1Cur_opposite.j3] at H
                                by_cases c51 : x61_47 = true
                                · subst c51
                                  have H1 : ((spec_l1Cur_one.f s0_0 x1001_2 x1002_2 9).bind fun bt149 => (if bt149.1 = true then (spec_l1Cur_opposite.l1 kj47 (wrap64 (1 + t118)) x5_2 t135 (x5_1.length : Int) (wrap64 (x39_2 + 1)) s0_0 bt149.2.1 bt149.2.2) else ((some (([1, 2, (-1), (-2)] : List Int) : List Int)).bind fun y152 => (if 0 ≤ (Int.tmod (wrap64 (1 + t135)) 4) then (if (Int.tmod (wrap64 (1 + t135)) 4) < (y152.length : Int) then (if 0 ≤ x39_2 then (if x39_2 < (x5_2.length : Int) then (spec_l1Cur_opposite.l1 kj47 (wrap64 (1 + t118)) (x5_2.set (x39_2 : Int).toNat (rd y152 (Int.tmod (wrap64 (1 + t135)) 4))) t135 (x5_1.length : Int) (wrap64 (x39_2 + 1)) s0_0 bt149.2.1 bt149.2.2) else (none)) else (none)) else (none)) else (none))))) = some (r1, r2, r3, r4) := by rw [if_pos rfl] at H; exact H
                                  clear H
                                  have H := H1
                                  clear H1
                                  replace H := Option.bind_eq_some_iff.mp H
                                  obtain ⟨⟨t149, t150, t151⟩, A520, H⟩ := H
                                  replace H : (if t149 = true then (spec_l1Cur_opposite.l1 kj47 (wrap64 (1 + t118)) x5_2 t135 (x5_1.length : Int) (wrap64 (x39_2 + 1)) s0_0 t150 t151) else ((some (([1, 2, (-1), (-2)] : List Int) : List Int)).bind fun y152 => (if 0 ≤ (Int.tmod (wrap64 (1 + t135)) 4) then (if (Int.tmod (wrap64 (1 + t135)) 4) < (y152.length : Int) then (if 0 ≤ x39_2 then (if x39_2 < (x5_2.length : Int) then (spec_l1Cur_opposite.l1 kj47 (wrap64 (1 + t118)) (x5_2.set (x39_2 : Int).toNat (rd y152 (Int.tmod (wrap64 (1 + t135)) 4))) t135 (x5_1.length : Int) (wrap64 (x39_2 + 1)) s0_0 t150 t151) else (none)) else (none)) else (none)) else (none)))) = some (r1, r2, r3, r4) := H
                                  have A52 := Aside0.mk A520
                                  clear A520
                                  by_cases c53 : t149 = true
                                  · subst c53
                                    have H1 : (spec_l1Cur_opposite.l1 kj47 (wrap64 (1 + t118)) x5_2 t135 (x5_1.length : Int) (wrap64 (x39_2 + 1)) s0_0 t150 t151) = some (r1, r2, r3, r4) := by rw [if_pos rfl] at H; exact H
                                    clear H
                                    have H := H1
                                    clear H1
                                    have H' := Aside0.mk H
                                    clear H
                                    go_wp2_with (first | ((with_reducible refine gate_callee (f := 120) rfl ?_); refine goesL_ (some 84) rfl rfl Try.func120 (by kernel_rfl) rfl #[.pointer (some ⟨g, 0, none⟩), .int .i64 9] rfl (by (try simp only [List.map_toArray, List.map_cons, List.map_nil]); first | done | rfl | (simp only [List.length_drop, List.length_take]; rfl)) ?_; (with_reducible refine (spec_l1Cur_one.calls g s0_0 x1001_2 x1002_2 9 true t150 t151 w0 _ ?side1 ?side2 A52.out).mono ?_); (case side1 => repeat (first | (with_reducible first | exact HI0.out | apply IsS77.alloc | apply IsS77.drewN | apply IsS77.drew | apply IsS77.set_1 | apply IsS77.set_2) | exact HI0.out)); (case side2 => repeat (first | (with_reducible first | exact HB.out | apply below_alloc | apply pw_below_drewN | apply below_drew1 | refine below_set ?_ (IsS77.ge HI0.out)) | exact HB.out)); rintro e w54 ⟨rfl, hi, hb, hk⟩; refine ⟨_, rfl, ?_⟩; have n0_ := Aside0.mk (Kd.R_mono (Kd.R_keep (IsS77.apart (show IsS77 w0 _ g s0_0 x1001_2 x1002_2 from by repeat (first | (with_reducible first | exact HI0.out | apply IsS77.alloc | apply IsS77.drewN | apply IsS77.drew | apply IsS77.set_1 | apply IsS77.set_2) | exact HI0.out)) (by (with_reducible repeat (first | apply Kd.R_alloc | apply Kd.R_drewN | apply Kd.R_drew)); exact HO_5.out) (by decide)) hk (fun _ h => h.2)) (fun _ h => h.1)); have n1_ := Aside0.mk (KeepBut.trans (by repeat (first | (with_reducible first | exact HK.out | apply KeepBut.set_ | apply keep_drewN | apply keep_drew | apply keep_alloc) | exact HK.out)) hk (.inl rfl)); have n2_ := Aside0.mk (hb); have n3_ := Aside0.mk (hi); clear HO_5; clear HK; clear HB; clear HI0; have HO_5 := n0_; have HK := n1_; have HB := n2_; have HI0 := n3_; clear n0_ n1_ n2_ n3_; (try clear hb); (try clear hb2); (try clear hk); (try clear hi)))
                                    (try simp only [← hl5_2])
                                    go_roundg kj47
                                    case measure => have := HK1.out; have := HK2.out; have := HJ28.out; have := HJ47.out; omega
                                    case rel => exact ⟨(x5_2), (wrap64 (x39_2 + 1)), (t150), (t151), (by first | rfl | (simp; done) | (simp [*]; done)), H', ⟨by have := HK1.out; have := HK2.out; have := HJ28.out; have := HJ47.out; omega⟩, ⟨by (try simp only [hl5_1]); (try simp only [hl5_2]); (with_reducible repeat (first | apply Kd.R_alloc | apply Kd.R_drewN | apply Kd.R_drew)); exact HO_5.out⟩, ⟨by repeat (first | (with_reducible first | exact HI0.out | apply IsS77.alloc | apply IsS77.drewN | apply IsS77.drew | apply IsS77.set_1 | apply IsS77.set_2) | exact HI0.out)⟩, ⟨by repeat (first | (with_reducible first | exact HK.out | apply KeepBut.set_ | apply keep_drewN | apply keep_drew | apply keep_alloc) | exact HK.out)⟩, ⟨by repeat (first | (with_reducible first | exact HB.out | apply below_alloc | apply pw_below_drewN | apply below_drew1 | refine below_set ?_ (IsS77.ge HI0.out)) | exact HB.out)⟩⟩
                                  · replace c53 := Bool.eq_false_iff.mpr c53
                                    subst c53
                                    have H1 : ((some (([1, 2, (-1), (-2)] : List Int) : List Int)).bind fun y152 => (if 0 ≤ (Int.tmod (wrap64 (1 + t135)) 4) then (if (Int.tmod (wrap64 (1 + t135)) 4) < (y152.length : Int) then (if 0 ≤ x39_2 then (if x39_2 < (x5_2.length : Int) then (spec_l1Cur_opposite.l1 kj47 (wrap64 (1 + t118)) (x5_2.set (x39_2 : Int).toNat (rd y152 (Int.tmod (wrap64 (1 + t135)) 4))) t135 (x5_1.length : Int) (wrap64 (x39_2 + 1)) s0_0 t150 t151) else (none)) else (none)) else (none)) else (none))) = some (r1, r2, r3, r4) := by rw [if_neg (show ¬ (false = true) by decide)] at H; exact H
                                    clear H
                                    have H := H1
                                    clear H1
                                    obtain ⟨y152, hy152⟩ : ∃ y_ : List Int, y_ = (([1, 2, (-1), (-2)] : List Int)) := ⟨_, rfl⟩
                                    replace H : (if 0 ≤ (Int.tmod (wrap64 (1 + t135)) 4) then (if (Int.tmod (wrap64 (1 + t135)) 4) < (y152.length : Int) then (if 0 ≤ x39_2 then (if x39_2 < (x5_2.length : Int) then (spec_l1Cur_opposite.l1 kj47 (wrap64 (1 + t118)) (x5_2.set (x39_2 : Int).toNat (rd y152 (Int.tmod (wrap64 (1 + t135)) 4))) t135 (x5_1.length : Int) (wrap64 (x39_2 + 1)) s0_0 t150 t151) else (none)) else (none)) else (none)) else (none)) = some (r1, r2, r3, r4) := by first | (rw [hy152]; with_reducible exact H) | (have H2_ := (Option.bind_some _ _).symm.trans H; rw [hy152]; with_reducible exact H2_) | (have H2_ := (Option.bind_some _ _).symm.trans H; with_reducible exact H2_) | with_reducible exact H | (rw [hy152]; exact H) | exact H
                                    have Ny152 := Aside0.mk hy152
                                    clear hy152
                                    obtain ⟨ji55, hji55⟩ : ∃ j_ : Int, (Int.tmod (wrap64 (1 + t135)) 4) = j_ := ⟨_, rfl⟩
                                    have hjx55 : Int.tmod (IntKind.i64.wrap (1 + t135)) (4 : Int) = ji55 := (congrArg (fun z => Int.tmod z (4 : Int)) (IntWalk.i64_left (1 + t135))).trans hji55
                                    replace H : (if 0 ≤ (ji55) then (if (ji55) < (y152.length : Int) then (if 0 ≤ x39_2 then (if x39_2 < (x5_2.length : Int) then (spec_l1Cur_opposite.l1 kj47 (wrap64 (1 + t118)) (x5_2.set (x39_2 : Int).toNat (rd y152 (ji55))) t135 (x5_1.length : Int) (wrap64 (x39_2 + 1)) s0_0 t150 t151) else (none)) else (none)) else (none)) else (none)) = some (r1, r2, r3, r4) := by first | (rw [hji55] at H; exact H) | (simp only [hji55] at H ⊢; exact H)
                                    (try rw [hji55] at A52)
                                    by_cases c56 : 0 ≤ (ji55)
                                    · rw [if_pos c56] at H
                                      have c56b0 : decide (0 ≤ (ji55)) = true := decide_eq_true c56
                                      clear c56
                                      by_cases c57 : (ji55) < (y152.length : Int)
                                      · rw [if_pos c57] at H
                                        have c57b0 : decide ((ji55) < (y152.length : Int)) = true := decide_eq_true c57
                                        try (have c57b0e0 := c57b0; simp only [hl5_1] at c57b0e0)
                                        try (have c57b0e1 := c57b0; simp only [hl5_2] at c57b0e1)
                                        clear c57
                                        by_cases c58 : 0 ≤ x39_2
                                        · rw [if_pos c58] at H
                                          have c58b0 : decide (0 ≤ x39_2) = true := decide_eq_true c58
                                          clear c58
                                          by_cases c59 : x39_2 < (x5_2.length : Int)
                                          · rw [if_pos c59] at H
                                            have c59b0 : decide (x39_2 < (x5_2.length : Int)) = true := decide_eq_true c59
                                            try (have c59b0e0 := c59b0; simp only [hl5_1] at c59b0e0)
                                            try (have c59b0e1 := c59b0; simp only [hl5_2] at c59b0e1)
                                            clear c59
                                            obtain ⟨y156, hy156⟩ : ∃ y_ : List Int, y_ = (x5_2.set (x39_2 : Int).toNat (rd y152 (ji55))) := ⟨_, rfl⟩
                                            replace H : (spec_l1Cur_opposite.l1 kj47 (wrap64 (1 + t118)) y156 t135 (x5_1.length : Int) (wrap64 (x39_2 + 1)) s0_0 t150 t151) = some (r1, r2, r3, r4) := by first | (rw [hy156]; with_reducible exact H) | (have H2_ := (Option.bind_some _ _).symm.trans H; rw [hy156]; with_reducible exact H2_) | (have H2_ := (Option.bind_some _ _).symm.trans H; with_reducible exact H2_) | with_reducible exact H | (rw [hy156]; exact H) | exact H
                                            have Ny156 := Aside0.mk hy156
                                            clear hy156
                                            have H' := Aside0.mk H
                                            clear H
                                            go_wp2_with (first | ((with_reducible refine gate_callee (f := 120) rfl ?_); refine goesL_ (some 84) rfl rfl Try.func120 (by kernel_rfl) rfl #[.pointer (some ⟨g, 0, none⟩), .int .i64 9] rfl (by (try simp only [List.map_toArray, List.map_cons, List.map_nil]); first | done | rfl | (simp only [List.length_drop, List.length_take]; rfl)) ?_; (with_reducible refine (spec_l1Cur_one.calls g s0_0 x1001_2 x1002_2 9 false t150 t151 w0 _ ?side1 ?side2 A52.out).mono ?_); (case side1 => repeat (first | (with_reducible first | exact HI0.out | apply IsS77.alloc | apply IsS77.drewN | apply IsS77.drew | apply IsS77.set_1 | apply IsS77.set_2) | exact HI0.out)); (case side2 => repeat (first | (with_reducible first | exact HB.out | apply below_alloc | apply pw_below_drewN | apply below_drew1 | refine below_set ?_ (IsS77.ge HI0.out)) | exact HB.out)); rintro e w61 ⟨rfl, hi, hb, hk⟩; refine ⟨_, rfl, ?_⟩; have n0_ := Aside0.mk (Kd.R_mono (Kd.R_keep (IsS77.apart (show IsS77 w0 _ g s0_0 x1001_2 x1002_2 from by repeat (first | (with_reducible first | exact HI0.out | apply IsS77.alloc | apply IsS77.drewN | apply IsS77.drew | apply IsS77.set_1 | apply IsS77.set_2) | exact HI0.out)) (by (with_reducible repeat (first | apply Kd.R_alloc | apply Kd.R_drewN | apply Kd.R_drew)); exact HO_5.out) (by decide)) hk (fun _ h => h.2)) (fun _ h => h.1)); have n1_ := Aside0.mk (KeepBut.trans (by repeat (first | (with_reducible first | exact HK.out | apply KeepBut.set_ | apply keep_drewN | apply keep_drew | apply keep_alloc) | exact HK.out)) hk (.inl rfl)); have n2_ := Aside0.mk (hb); have n3_ := Aside0.mk (hi); clear HO_5; clear HK; clear HB; clear HI0; have HO_5 := n0_; have HK := n1_; have HB := n2_; have HI0 := n3_; clear n0_ n1_ n2_ n3_; (try clear hb); (try clear hb2); (try clear hk); (try clear hi)) | ((with_reducible refine gate_dst (N := 88) rfl ?_); refine Kd.R_lit (Kd.int .i64) _ 3 ?hg (N := 88) ?hd (xs := ([1, 2, (-1), (-2)] : List Int)) (inner := [.int .i64 1, .int .i64 2, .int .i64 (-1), .int .i64 (-2)]) (ok := fun _ => True) (okp := fun _ => True) ?hr ?hp (fun _ hk => hk) trivial (Below.refl _ _) (Nat.le_refl _) (by simp) ?_; (case hd => rfl); (case hg => rfl); (case hr => first | (go_simp; done) | (go_simp; rfl)); (case hp => exact (Reps.one (show Kd.M (Kd.int .i64) _ _ _ 1 [.int .i64 1] from rfl) (Reps.one (show Kd.M (Kd.int .i64) _ _ _ 2 [.int .i64 2] from rfl) (Reps.one (show Kd.M (Kd.int .i64) _ _ _ (-1) [.int .i64 (-1)] from rfl) (Reps.one (show Kd.M (Kd.int .i64) _ _ _ (-2) [.int .i64 (-2)] from rfl) (Reps.none _ _)))))); intro v153 w62 ho63 hb hg_ hnew_; clear hg_ hnew_; (first | rw [← Ny152.out] at ho63 | (simp only [Int.reduceToNat] at ho63; rw [← Ny152.out] at ho63)); have n0_ := Aside0.mk (Kd.R_elder' (by (with_reducible repeat (first | apply Kd.R_alloc | apply Kd.R_drewN | apply Kd.R_drew)); exact HO_5.out) (Kd.R_base ho63) hb); have n1_ := Aside0.mk (Kd.R_lower (Kd.R_new' ho63 (Kd.R_lt (by (with_reducible repeat (first | apply Kd.R_alloc | apply Kd.R_drewN | apply Kd.R_drew)); exact HO_5.out))) (keep_size (w := w) (g := g) (row := none) (by repeat (first | (with_reducible first | exact HK.out | apply KeepBut.set_ | apply keep_drewN | apply keep_drew | apply keep_alloc) | exact HK.out)))); have n2_ := Aside0.mk (IsS77.below (by repeat (first | (with_reducible first | exact HI0.out | apply IsS77.alloc | apply IsS77.drewN | apply IsS77.drew | apply IsS77.set_1 | apply IsS77.set_2) | exact HI0.out)) hb); have n3_ := Aside0.mk (KeepBut.trans (by repeat (first | (with_reducible first | exact HK.out | apply KeepBut.set_ | apply keep_drewN | apply keep_drew | apply keep_alloc) | exact HK.out)) (KeepBut.of_below hb g none) (.inl rfl)); have n4_ := Aside0.mk (below_step (by repeat (first | (with_reducible first | exact HB.out | apply below_alloc | apply pw_below_drewN | apply below_drew1 | refine below_set ?_ (IsS77.ge HI0.out)) | exact HB.out)) hb); clear HO_5; clear HI0; clear HK; clear HB; have HO_5 := n0_; have HO154 := n1_; have HI0 := n2_; have HK := n3_; have HB := n4_; clear n0_ n1_ n2_ n3_ n4_; clear hb ho63; obtain ⟨Ao64, co64, eo64⟩ := Kd.R_slice HO154.out; subst eo64; have p155 : 0 ≤ ((ji55) : Int) := of_decide_eq_true (by first | (with_reducible assumption) | assumption); have q155 : (ji55) < (y152.length : Int) := of_decide_eq_true (by first | (with_reducible assumption) | assumption); obtain ⟨ad155, e155, hx155_0⟩ := Kd.at_int (Kd.R_reads' HO154.out).2.2 (ji55) p155 q155; cases e155; replace p155 := eq_true p155; replace q155 := eq_true q155; have p60 : 0 ≤ (x39_2 : Int) := of_decide_eq_true (by first | (with_reducible assumption) | assumption); have q60 : (x39_2 : Int) < ((x5_2.length : Int) : Int) := of_decide_eq_true (by first | (with_reducible assumption) | assumption); obtain ⟨go60, co60, eo60, gb60, gl60, cl60, HG60⟩ := Kd.R_form HO_5.out (by omega); (first | cases eo60 | (injection eo60 with ea_ en_ ec_; (first | subst ea_ | (injection ea_ with ea_; subst ea_)); subst ec_; clear en_)); have GB60 := Aside0.mk gb60; have GG60 := Aside0.mk HG60; clear gb60 gl60 HG60; obtain ⟨hx60_0, hf60_0⟩ := Kd.R_celln 0 HO_5.out (x39_2 : Int) p60 q60; replace p60 := eq_true p60; replace q60 := eq_true q60; have n_ := Aside0.mk (Kd.R_mono (ok' := (fun k_ => some k_ ≠ (.slice (some ad155) y152.length co64 : Value).ownBlock)) HO_5.out (fun k_ hk => hk.2)); clear HO_5; have HO_5 := n_; clear n_; obtain ⟨hy65_, hz65_⟩ := Kd.R_celln 0 HO_5.out (x39_2 : Int) (of_decide_eq_true (by first | (with_reducible assumption) | assumption)) (of_decide_eq_true (by first | (with_reducible assumption) | assumption)); have HP65 := Kd.R_putg HO_5.out (x39_2 : Int) (rd y152 (ji55))) | ((with_reducible refine gate_store (t := 3) (p := 95) rfl ?_); refine store_event (t := 3) (p := 95) (v := ?vo_w66) (w1 := (w62.setCell ⟨go60, (x39_2 : Int).toNat, none⟩ (.int .i64 (rd y152 (ji55))))) ?hg ?ho ?hn ?hr ?_; (case ho => rfl); (case hg => rfl); (case hn => rfl); (case hr => first | (go_simp; done) | (go_simp; rfl)); intro w66 hw; have hg : w62.grownBy w66 (some go60) := (by rw [hw]; exact HP65.2); have hp_ : Kd.R (Kd.int .i64) 3 w66 w.heap.size (fun k_ => some k_ ≠ (.slice (some ad155) y152.length co64 : Value).ownBlock) (.slice (some ⟨go60, 0, none⟩) x5_2.length co9) y156 := (by rw [hw, Ny156.out]; exact HP65.1); clear HP65; have n0_ := Aside0.mk (hp_); have n1_ := Aside0.mk (IsS77.grown (by repeat (first | (with_reducible first | exact HI0.out | apply IsS77.alloc | apply IsS77.drewN | apply IsS77.drew | apply IsS77.set_1 | apply IsS77.set_2) | exact HI0.out)) hg (IsS77.own_ne HI0.out HO_5.out (by decide))); have n2_ := Aside0.mk (Kd.R_after (v := (.slice (some ⟨go60, 0, none⟩) x5_2.length co9)) (v1 := (.slice (some ⟨go60, 0, none⟩) x5_2.length co9)) (ok := (fun _ => True)) (by (with_reducible repeat (first | apply Kd.R_alloc | apply Kd.R_drewN | apply Kd.R_drew)); exact HO154.out) hg (.inl rfl)); have n3_ := Aside0.mk ((by rw [hw]; exact below_set (HB.out) (Nat.le_trans HL.out GB60.out) : Below w0.heap.size w0 w66)); have n4_ := Aside0.mk (KeepBut.trans (by repeat (first | (with_reducible first | exact HK.out | apply KeepBut.set_ | apply keep_drewN | apply keep_drew | apply keep_alloc) | exact HK.out)) (KeepBut.of_grown hg g) (Kd.R_base2 HO_5.out)); clear HO_5; clear HI0; clear HO154; clear HB; clear HK; have HO_5 := n0_; have HI0 := n1_; have HO154 := n2_; have HB := n3_; have HK := n4_; clear n0_ n1_ n2_ n3_ n4_; clear hg hw hp_))
                                            (try simp only [← hl5_2])
                                            go_roundg kj47
                                            case measure => have := HK1.out; have := HK2.out; have := HJ28.out; have := HJ47.out; omega
                                            case rel => exact ⟨(y156), (wrap64 (x39_2 + 1)), (t150), (t151), (by first | rfl | (simp; done) | (simp [*]; done)), H', ⟨by have := HK1.out; have := HK2.out; have := HJ28.out; have := HJ47.out; omega⟩, ⟨by (try simp only [hl5_1]); (try simp only [hl5_2]); (with_reducible repeat (first | apply Kd.R_alloc | apply Kd.R_drewN | apply Kd.R_drew)); exact Kd.R_mono HO_5.out (fun _ hk => trivial)⟩, ⟨by repeat (first | (with_reducible first | exact HI0.out | apply IsS77.alloc | apply IsS77.drewN | apply IsS77.drew | apply IsS77.set_1 | apply IsS77.set_2) | exact HI0.out)⟩, ⟨by repeat (first | (with_reducible first | exact HK.out | apply KeepBut.set_ | apply keep_drewN | apply keep_drew | apply keep_alloc) | exact HK.out)⟩, ⟨by repeat (first | (with_reducible first | exact HB.out | apply below_alloc | apply pw_below_drewN | apply below_drew1 | refine below_set ?_ (IsS77.ge HI0.out)) | exact HB.out)⟩⟩
                                          · rw [if_neg c59] at H
                                            exact absurd H (by simp)
                                        · rw [if_neg c58] at H
                                          exact absurd H (by simp)
                                      · rw [if_neg c57] at H
                                        exact absurd H (by simp)
                                    · rw [if_neg c56] at H
                                      exact absurd H (by simp)
                                · replace c51 := Bool.eq_false_iff.mpr c51
                                  subst c51
                                  have H1 : (if t138 < 0 then (if t139 ≥ 0 then (spec_l1Cur_opposite.j4 kj47 (wrap64 (1 + t118)) x5_2 t135 x39_2 3 (x5_1.length : Int) x39_2 (decide (t139 ≤ (wrap64 (-t138)))) s0_0 x1001_2 x1002_2) else (spec_l1Cur_opposite.j4 kj47 (wrap64 (1 + t118)) x5_2 t135 x39_2 3 (x5_1.length : Int) x39_2 false s0_0 x1001_2 x1002_2)) else (spec_l1Cur_opposite.j4 kj47 (wrap64 (1 + t118)) x5_2 t135 x39_2 3 (x5_1.length : Int) x39_2 false s0_0 x1001_2 x1002_2)) = some (r1, r2, r3, r4) := by rw [if_neg (show ¬ (false = true) by decide)] at H; exact H
                                  clear H
                                  have H := H1
                                  clear H1
                                  have HC67 := Aside0.mk H
                                  clear H
                                  go_upto_region 19 with (fail)
                                  go_cut [70] (fun v70 wc => ∃ (kq : Nat) (x70_66 : Bool), v70 = .bool x70_66 ∧ Aside0 (spec_l1Cur_opposite.j4 kq (wrap64 (1 + t118)) x5_2 t135 x39_2 3 (x5_1.length : Int) x39_2 x70_66 s0_0 x1001_2 x1002_2 = some (r1, r2, r3, r4)) ∧ Aside0 (kq ≤ kj47) ∧ Aside0 (Kd.R (Kd.int .i64) 3 wc w.heap.size (fun _ => True) (.slice Ao9 x5_2.length co9) x5_2) ∧ Aside0 (IsS77 w0 wc g s0_0 x1001_2 x1002_2) ∧ Aside0 (KeepBut w wc g none) ∧ Aside0 (Below w0.heap.size w0 wc))
                                  case first =>
                                    have H := HC67.out
                                    clear HC67
                                    by_cases c68 : t138 < 0
                                    · rw [if_pos c68] at H
                                      have c68b0 : decide (t138 < 0) = true := decide_eq_true c68
                                      clear c68
                                      (first | rw [c68b0] | (simp only [i64_w, i32_w]; rw [c68b0]) | skip)
                                      by_cases c69 : t139 ≥ 0
                                      · rw [if_pos c69] at H
                                        have c69b0 : decide (0 ≤ t139) = true := decide_eq_true c69
                                        clear c69
                                        have H' := Aside0.mk H
                                        clear H
                                        go_wp2
                                        go_meet
                                        case rel => exact ⟨_, (decide (t139 ≤ (wrap64 (-t138)))), (by first | rfl | (simp; done) | (simp [*]; done)), H', ⟨by have := HK1.out; have := HK2.out; have := HJ28.out; have := HJ47.out; first | omega | exact Nat.le_refl _⟩, ⟨by (try simp only [hl5_1]); (try simp only [hl5_2]); (with_reducible repeat (first | apply Kd.R_alloc | apply Kd.R_drewN | apply Kd.R_drew)); exact HO_5.out⟩, ⟨by repeat (first | (with_reducible first | exact HI0.out | apply IsS77.alloc | apply IsS77.drewN | apply IsS77.drew | apply IsS77.set_1 | apply IsS77.set_2) | exact HI0.out)⟩, ⟨by repeat (first | (with_reducible first | exact HK.out | apply KeepBut.set_ | apply keep_drewN | apply keep_drew | apply keep_alloc) | exact HK.out)⟩, ⟨by repeat (first | (with_reducible first | exact HB.out | apply below_alloc | apply pw_below_drewN | apply below_drew1 | refine below_set ?_ (IsS77.ge HI0.out)) | exact HB.out)⟩⟩
                                      · rw [if_neg c69] at H
                                        have c69b0 : decide (0 ≤ t139) = false := decide_eq_false c69
                                        clear c69
                                        have H' := Aside0.mk H
                                        clear H
                                        go_wp2
                                        go_meet
                                        case rel => exact ⟨_, (false), (by first | rfl | (simp; done) | (simp [*]; done)), H', ⟨by have := HK1.out; have := HK2.out; have := HJ28.out; have := HJ47.out; first | omega | exact Nat.le_refl _⟩, ⟨by (try simp only [hl5_1]); (try simp only [hl5_2]); (with_reducible repeat (first | apply Kd.R_alloc | apply Kd.R_drewN | apply Kd.R_drew)); exact HO_5.out⟩, ⟨by repeat (first | (with_reducible first | exact HI0.out | apply IsS77.alloc | apply IsS77.drewN | apply IsS77.drew | apply IsS77.set_1 | apply IsS77.set_2) | exact HI0.out)⟩, ⟨by repeat (first | (with_reducible first | exact HK.out | apply KeepBut.set_ | apply keep_drewN | apply keep_drew | apply keep_alloc) | exact HK.out)⟩, ⟨by repeat (first | (with_reducible first | exact HB.out | apply below_alloc | apply pw_below_drewN | apply below_drew1 | refine below_set ?_ (IsS77.ge HI0.out)) | exact HB.out)⟩⟩
                                    · rw [if_neg c68] at H
                                      have c68b0 : decide (t138 < 0) = false := decide_eq_false c68
                                      clear c68
                                      (first | rw [c68b0] | (simp only [i64_w, i32_w]; rw [c68b0]) | skip)
                                      have H' := Aside0.mk H
                                      clear H
                                      go_wp2
                                      go_meet
                                      case rel => exact ⟨_, (false), (by first | rfl | (simp; done) | (simp [*]; done)), H', ⟨by have := HK1.out; have := HK2.out; have := HJ28.out; have := HJ47.out; first | omega | exact Nat.le_refl _⟩, ⟨by (try simp only [hl5_1]); (try simp only [hl5_2]); (with_reducible repeat (first | apply Kd.R_alloc | apply Kd.R_drewN | apply Kd.R_drew)); exact HO_5.out⟩, ⟨by repeat (first | (with_reducible first | exact HI0.out | apply IsS77.alloc | apply IsS77.drewN | apply IsS77.drew | apply IsS77.set_1 | apply IsS77.set_2) | exact HI0.out)⟩, ⟨by repeat (first | (with_reducible first | exact HK.out | apply KeepBut.set_ | apply keep_drewN | apply keep_drew | apply keep_alloc) | exact HK.out)⟩, ⟨by repeat (first | (with_reducible first | exact HB.out | apply below_alloc | apply pw_below_drewN | apply below_drew1 | refine below_set ?_ (IsS77.ge HI0.out)) | exact HB.out)⟩⟩
                                  case rest =>
                                    clear HC67
                                    try clear c1
                                    try clear p1
                                    try clear q1
                                    try clear hx1
                                    try clear hf1
                                    try clear c2
                                    try clear p2
                                    try clear c3
                                    try clear c4
                                    try clear c4b0
                                    try clear c4b1
                                    try clear p4
                                    try clear q4
                                    try clear hx4
                                    try clear hf4
                                    try clear c5
                                    try clear c5b0
                                    try clear c5b1
                                    try clear c6
                                    try clear p6
                                    try clear q6
                                    try clear hx6
                                    try clear hf6
                                    try clear c8
                                    try clear c9
                                    try clear c10
                                    try clear c10b0
                                    try clear c11
                                    try clear c12
                                    try clear c12b0
                                    try clear c13
                                    try clear c13b0
                                    try clear p14
                                    try clear q14
                                    try clear hx14
                                    try clear hf14
                                    try clear p15
                                    try clear q15
                                    try clear hx15
                                    try clear c24
                                    try clear c27
                                    try clear c27b0
                                    try clear c30
                                    try clear c30b0
                                    try clear c31
                                    try clear c31b0
                                    try clear c32
                                    try clear c34
                                    try clear c37
                                    try clear c37b0
                                    try clear c38
                                    try clear c38b0
                                    try clear c39
                                    try clear c39b0
                                    try clear c40
                                    try clear c40b0
                                    try clear p41
                                    try clear q41
                                    try clear hx41
                                    try clear hf41
                                    try clear c49
                                    try clear c49b0
                                    try clear c51
                                    try clear c53
                                    try clear c56
                                    try clear c56b0
                                    try clear c57
                                    try clear c57b0
                                    try clear c58
                                    try clear c58b0
                                    try clear c59
                                    try clear c59b0
                                    try clear p60
                                    try clear q60
                                    try clear hx60
                                    try clear hf60
                                    try clear p64
                                    try clear c68
                                    try clear c68b0
                                    try clear c69
                                    try clear c69b0
                                    try clear hx146_0
                                    try clear hx14_0
                                    try clear hx155_0
                                    try clear hx41_0
                                    try clear hx60_0
                                    try clear p1
                                    try clear p14
                                    try clear p146
                                    try clear p155
                                    try clear p2
                                    try clear p4
                                    try clear p41
                                    try clear p6
                                    try clear p60
                                    try clear q1
                                    try clear q14
                                    try clear q146
                                    try clear q155
                                    try clear q4
                                    try clear q41
                                    try clear q60
                                    obtain ⟨kq, x70_66, rfl, HA, HJ66, HO_5, HI0, HK, HB⟩ := hcut
                                    cases kq with
                                    | zero => exact absurd HA.out (by simp [spec_l1Cur_opposite.j4])
                                    | succ kj66 =>
                                      have H := HA.out
                                      clear HA
                                      simp only [spec_l1Cur_opposite.j4] at H
                                      by_cases c70 : x70_66 = true
                                      · subst c70
                                        have H1 : ((spec_l1Cur_one.f s0_0 x1001_2 x1002_2 9).bind fun bt157 => (if bt157.1 = true then (spec_l1Cur_opposite.l1 kj66 (wrap64 (1 + t118)) x5_2 t135 (x5_1.length : Int) (wrap64 (x39_2 + 1)) s0_0 bt157.2.1 bt157.2.2) else ((some (([1, 2, (-1), (-2)] : List Int) : List Int)).bind fun y160 => (if 0 ≤ (Int.tmod (wrap64 (2 + t135)) 4) then (if (Int.tmod (wrap64 (2 + t135)) 4) < (y160.length : Int) then (if 0 ≤ x39_2 then (if x39_2 < (x5_2.length : Int) then (spec_l1Cur_opposite.l1 kj66 (wrap64 (1 + t118)) (x5_2.set (x39_2 : Int).toNat (rd y160 (Int.tmod (wrap64 (2 + t135)) 4))) t135 (x5_1.length : Int) (wrap64 (x39_2 + 1)) s0_0 bt157.2.1 bt157.2.2) else (none)) else (none)) else (none)) else (none))))) = some (r1, r2, r3, r4) := by rw [if_pos rfl] at H; exact H
                                        clear H
                                        have H := H1
                                        clear H1
                                        replace H := Option.bind_eq_some_iff.mp H
                                        obtain ⟨⟨t157, t158, t159⟩, A710, H⟩ := H
                                        replace H : (if t157 = true then (spec_l1Cur_opposite.l1 kj66 (wrap64 (1 + t118)) x5_2 t135 (x5_1.length : Int) (wrap64 (x39_2 + 1)) s0_0 t158 t159) else ((some (([1, 2, (-1), (-2)] : List Int) : List Int)).bind fun y160 => (if 0 ≤ (Int.tmod (wrap64 (2 + t135)) 4) then (if (Int.tmod (wrap64 (2 + t135)) 4) < (y160.length : Int) then (if 0 ≤ x39_2 then (if x39_2 < (x5_2.length : Int) then (spec_l1Cur_opposite.l1 kj66 (wrap64 (1 + t118)) (x5_2.set (x39_2 : Int).toNat (rd y160 (Int.tmod (wrap64 (2 + t135)) 4))) t135 (x5_1.length : Int) (wrap64 (x39_2 + 1)) s0_0 t158 t159) else (none)) else (none)) else (none)) else (none)))) = some (r1, r2, r3, r4) := H
                                        have A71 := Aside0.mk A710
                                        clear A710
                                        by_cases c72 : t157 = true
                                        · subst c72
                                          have H1 : (spec_l1Cur_opposite.l1 kj66 (wrap64 (1 + t118)) x5_2 t135 (x5_1.length : Int) (wrap64 (x39_2 + 1)) s0_0 t158 t159) = some (r1, r2, r3, r4) := by rw [if_pos rfl] at H; exact H
                                          clear H
                                          have H := H1
                                          clear H1
                                          have H' := Aside0.mk H
                                          clear H
                                          go_wp2_with (first | ((with_reducible refine gate_callee (f := 120) rfl ?_); refine goesL_ (some 84) rfl rfl Try.func120 (by kernel_rfl) rfl #[.pointer (some ⟨g, 0, none⟩), .int .i64 9] rfl (by (try simp only [List.map_toArray, List.map_cons, List.map_nil]); first | done | rfl | (simp only [List.length_drop, List.length_take]; rfl)) ?_; (with_reducible refine (spec_l1Cur_one.calls g s0_0 x1001_2 x1002_2 9 true t158 t159 w0 _ ?side1 ?side2 A71.out).mono ?_); (case side1 => repeat (first | (with_reducible first | exact HI0.out | apply IsS77.alloc | apply IsS77.drewN | apply IsS77.drew | apply IsS77.set_1 | apply IsS77.set_2) | exact HI0.out)); (case side2 => repeat (first | (with_reducible first | exact HB.out | apply below_alloc | apply pw_below_drewN | apply below_drew1 | refine below_set ?_ (IsS77.ge HI0.out)) | exact HB.out)); rintro e w73 ⟨rfl, hi, hb, hk⟩; refine ⟨_, rfl, ?_⟩; have n0_ := Aside0.mk (Kd.R_mono (Kd.R_keep (IsS77.apart (show IsS77 w0 _ g s0_0 x1001_2 x1002_2 from by repeat (first | (with_reducible first | exact HI0.out | apply IsS77.alloc | apply IsS77.drewN | apply IsS77.drew | apply IsS77.set_1 | apply IsS77.set_2) | exact HI0.out)) (by (with_reducible repeat (first | apply Kd.R_alloc | apply Kd.R_drewN | apply Kd.R_drew)); exact HO_5.out) (by decide)) hk (fun _ h => h.2)) (fun _ h => h.1)); have n1_ := Aside0.mk (KeepBut.trans (by repeat (first | (with_reducible first | exact HK.out | apply KeepBut.set_ | apply keep_drewN | apply keep_drew | apply keep_alloc) | exact HK.out)) hk (.inl rfl)); have n2_ := Aside0.mk (hb); have n3_ := Aside0.mk (hi); clear HO_5; clear HK; clear HB; clear HI0; have HO_5 := n0_; have HK := n1_; have HB := n2_; have HI0 := n3_; clear n0_ n1_ n2_ n3_; (try clear hb); (try clear hb2); (try clear hk); (try clear hi)))
                                          (try simp only [← hl5_2])
                                          go_roundg kj66
                                          case measure => have := HK1.out; have := HK2.out; have := HJ28.out; have := HJ47.out; have := HJ66.out; omega
                                          case rel => exact ⟨(x5_2), (wrap64 (x39_2 + 1)), (t158), (t159), (by first | rfl | (simp; done) | (simp [*]; done)), H', ⟨by have := HK1.out; have := HK2.out; have := HJ28.out; have := HJ47.out; have := HJ66.out; omega⟩, ⟨by (try simp only [hl5_1]); (try simp only [hl5_2]); (with_reducible repeat (first | apply Kd.R_alloc | apply Kd.R_drewN | apply Kd.R_drew)); exact HO_5.out⟩, ⟨by repeat (first | (with_reducible first | exact HI0.out | apply IsS77.alloc | apply IsS77.drewN | apply IsS77.drew | apply IsS77.set_1 | apply IsS77.set_2) | exact HI0.out)⟩, ⟨by repeat (first | (with_reducible first | exact HK.out | apply KeepBut.set_ | apply keep_drewN | apply keep_drew | apply keep_alloc) | exact HK.out)⟩, ⟨by repeat (first | (with_reducible first | exact HB.out | apply below_alloc | apply pw_below_drewN | apply below_drew1 | refine below_set ?_ (IsS77.ge HI0.out)) | exact HB.out)⟩⟩
                                        · replace c72 := Bool.eq_false_iff.mpr c72
                                          subst c72
                                          have H1 : ((some (([1, 2, (-1), (-2)] : List Int) : List Int)).bind fun y160 => (if 0 ≤ (Int.tmod (wrap64 (2 + t135)) 4) then (if (Int.tmod (wrap64 (2 + t135)) 4) < (y160.length : Int) then (if 0 ≤ x39_2 then (if x39_2 < (x5_2.length : Int) then (spec_l1Cur_opposite.l1 kj66 (wrap64 (1 + t118)) (x5_2.set (x39_2 : Int).toNat (rd y160 (Int.tmod (wrap64 (2 + t135)) 4))) t135 (x5_1.length : Int) (wrap64 (x39_2 + 1)) s0_0 t158 t159) else (none)) else (none)) else (none)) else (none))) = some (r1, r2, r3, r4) := by rw [if_neg (show ¬ (false = true) by decide)] at H; exact H
                                          clear H
                                          have H := H1
                                          clear H1
                                          obtain ⟨y160, hy160⟩ : ∃ y_ : List Int, y_ = (([1, 2, (-1), (-2)] : List Int)) := ⟨_, rfl⟩
                                          replace H : (if 0 ≤ (Int.tmod (wrap64 (2 + t135)) 4) then (if (Int.tmod (wrap64 (2 + t135)) 4) < (y160.length : Int) then (if 0 ≤ x39_2 then (if x39_2 < (x5_2.length : Int) then (spec_l1Cur_opposite.l1 kj66 (wrap64 (1 + t118)) (x5_2.set (x39_2 : Int).toNat (rd y160 (Int.tmod (wrap64 (2 + t135)) 4))) t135 (x5_1.length : Int) (wrap64 (x39_2 + 1)) s0_0 t158 t159) else (none)) else (none)) else (none)) else (none)) = some (r1, r2, r3, r4) := by first | (rw [hy160]; with_reducible exact H) | (have H2_ := (Option.bind_some _ _).symm.trans H; rw [hy160]; with_reducible exact H2_) | (have H2_ := (Option.bind_some _ _).symm.trans H; with_reducible exact H2_) | with_reducible exact H | (rw [hy160]; exact H) | exact H
                                          have Ny160 := Aside0.mk hy160
                                          clear hy160
                                          obtain ⟨ji74, hji74⟩ : ∃ j_ : Int, (Int.tmod (wrap64 (2 + t135)) 4) = j_ := ⟨_, rfl⟩
                                          have hjx74 : Int.tmod (IntKind.i64.wrap (2 + t135)) (4 : Int) = ji74 := (congrArg (fun z => Int.tmod z (4 : Int)) (IntWalk.i64_left (2 + t135))).trans hji74
                                          replace H : (if 0 ≤ (ji74) then (if (ji74) < (y160.length : Int) then (if 0 ≤ x39_2 then (if x39_2 < (x5_2.length : Int) then (spec_l1Cur_opposite.l1 kj66 (wrap64 (1 + t118)) (x5_2.set (x39_2 : Int).toNat (rd y160 (ji74))) t135 (x5_1.length : Int) (wrap64 (x39_2 + 1)) s0_0 t158 t159) else (none)) else (none)) else (none)) else (none)) = some (r1, r2, r3, r4) := by first | (rw [hji74] at H; exact H) | (simp only [hji74] at H ⊢; exact H)
                                          (try rw [hji74] at A71)
                                          by_cases c75 : 0 ≤ (ji74)
                                          · rw [if_pos c75] at H
                                            have c75b0 : decide (0 ≤ (ji74)) = true := decide_eq_true c75
                                            clear c75
                                            by_cases c76 : (ji74) < (y160.length : Int)
                                            · rw [if_pos c76] at H
                                              have c76b0 : decide ((ji74) < (y160.length : Int)) = true := decide_eq_true c76
                                              try (have c76b0e0 := c76b0; simp only [hl5_1] at c76b0e0)
                                              try (have c76b0e1 := c76b0; simp only [hl5_2] at c76b0e1)
                                              clear c76
                                              by_cases c77 : 0 ≤ x39_2
                                              · rw [if_pos c77] at H
                                                have c77b0 : decide (0 ≤ x39_2) = true := decide_eq_true c77
                                                clear c77
                                                by_cases c78 : x39_2 < (x5_2.length : Int)
                                                · rw [if_pos c78] at H
                                                  have c78b0 : decide (x39_2 < (x5_2.length : Int)) = true := decide_eq_true c78
                                                  try (have c78b0e0 := c78b0; simp only [hl5_1] at c78b0e0)
                                                  try (have c78b0e1 := c78b0; simp only [hl5_2] at c78b0e1)
                                                  clear c78
                                                  obtain ⟨y164, hy164⟩ : ∃ y_ : List Int, y_ = (x5_2.set (x39_2 : Int).toNat (rd y160 (ji74))) := ⟨_, rfl⟩
                                                  replace H : (spec_l1Cur_opposite.l1 kj66 (wrap64 (1 + t118)) y164 t135 (x5_1.length : Int) (wrap64 (x39_2 + 1)) s0_0 t158 t159) = some (r1, r2, r3, r4) := by first | (rw [hy164]; with_reducible exact H) | (have H2_ := (Option.bind_some _ _).symm.trans H; rw [hy164]; with_reducible exact H2_) | (have H2_ := (Option.bind_some _ _).symm.trans H; with_reducible exact H2_) | with_reducible exact H | (rw [hy164]; exact H) | exact H
                                                  have Ny164 := Aside0.mk hy164
                                                  clear hy164
                                                  have H' := Aside0.mk H
                                                  clear H
                                                  go_wp2_with (first | ((with_reducible refine gate_callee (f := 120) rfl ?_); refine goesL_ (some 84) rfl rfl Try.func120 (by kernel_rfl) rfl #[.pointer (some ⟨g, 0, none⟩), .int .i64 9] rfl (by (try simp only [List.map_toArray, List.map_cons, List.map_nil]); first | done | rfl | (simp only [List.length_drop, List.length_take]; rfl)) ?_; (with_reducible refine (spec_l1Cur_one.calls g s0_0 x1001_2 x1002_2 9 false t158 t159 w0 _ ?side1 ?side2 A71.out).mono ?_); (case side1 => repeat (first | (with_reducible first | exact HI0.out | apply IsS77.alloc | apply IsS77.drewN | apply IsS77.drew | apply IsS77.set_1 | apply IsS77.set_2) | exact HI0.out)); (case side2 => repeat (first | (with_reducible first | exact HB.out | apply below_alloc | apply pw_below_drewN | apply below_drew1 | refine below_set ?_ (IsS77.ge HI0.out)) | exact HB.out)); rintro e w80 ⟨rfl, hi, hb, hk⟩; refine ⟨_, rfl, ?_⟩; have n0_ := Aside0.mk (Kd.R_mono (Kd.R_keep (IsS77.apart (show IsS77 w0 _ g s0_0 x1001_2 x1002_2 from by repeat (first | (with_reducible first | exact HI0.out | apply IsS77.alloc | apply IsS77.drewN | apply IsS77.drew | apply IsS77.set_1 | apply IsS77.set_2) | exact HI0.out)) (by (with_reducible repeat (first | apply Kd.R_alloc | apply Kd.R_drewN | apply Kd.R_drew)); exact HO_5.out) (by decide)) hk (fun _ h => h.2)) (fun _ h => h.1)); have n1_ := Aside0.mk (KeepBut.trans (by repeat (first | (with_reducible first | exact HK.out | apply KeepBut.set_ | apply keep_drewN | apply keep_drew | apply keep_alloc) | exact HK.out)) hk (.inl rfl)); have n2_ := Aside0.mk (hb); have n3_ := Aside0.mk (hi); clear HO_5; clear HK; clear HB; clear HI0; have HO_5 := n0_; have HK := n1_; have HB := n2_; have HI0 := n3_; clear n0_ n1_ n2_ n3_; (try clear hb); (try clear hb2); (try clear hk); (try clear hi)) | ((with_reducible refine gate_dst (N := 88) rfl ?_); refine Kd.R_lit (Kd.int .i64) _ 3 ?hg (N := 88) ?hd (xs := ([1, 2, (-1), (-2)] : List Int)) (inner := [.int .i64 1, .int .i64 2, .int .i64 (-1), .int .i64 (-2)]) (ok := fun _ => True) (okp := fun _ => True) ?hr ?hp (fun _ hk => hk) trivial (Below.refl _ _) (Nat.le_refl _) (by simp) ?_; (case hd => rfl); (case hg => rfl); (case hr => first | (go_simp; done) | (go_simp; rfl)); (case hp => exact (Reps.one (show Kd.M (Kd.int .i64) _ _ _ 1 [.int .i64 1] from rfl) (Reps.one (show Kd.M (Kd.int .i64) _ _ _ 2 [.int .i64 2] from rfl) (Reps.one (show Kd.M (Kd.int .i64) _ _ _ (-1) [.int .i64 (-1)] from rfl) (Reps.one (show Kd.M (Kd.int .i64) _ _ _ (-2) [.int .i64 (-2)] from rfl) (Reps.none _ _)))))); intro v161 w81 ho82 hb hg_ hnew_; clear hg_ hnew_; (first | rw [← Ny160.out] at ho82 | (simp only [Int.reduceToNat] at ho82; rw [← Ny160.out] at ho82)); have n0_ := Aside0.mk (Kd.R_elder' (by (with_reducible repeat (first | apply Kd.R_alloc | apply Kd.R_drewN | apply Kd.R_drew)); exact HO_5.out) (Kd.R_base ho82) hb); have n1_ := Aside0.mk (Kd.R_lower (Kd.R_new' ho82 (Kd.R_lt (by (with_reducible repeat (first | apply Kd.R_alloc | apply Kd.R_drewN | apply Kd.R_drew)); exact HO_5.out))) (keep_size (w := w) (g := g) (row := none) (by repeat (first | (with_reducible first | exact HK.out | apply KeepBut.set_ | apply keep_drewN | apply keep_drew | apply keep_alloc) | exact HK.out)))); have n2_ := Aside0.mk (IsS77.below (by repeat (first | (with_reducible first | exact HI0.out | apply IsS77.alloc | apply IsS77.drewN | apply IsS77.drew | apply IsS77.set_1 | apply IsS77.set_2) | exact HI0.out)) hb); have n3_ := Aside0.mk (KeepBut.trans (by repeat (first | (with_reducible first | exact HK.out | apply KeepBut.set_ | apply keep_drewN | apply keep_drew | apply keep_alloc) | exact HK.out)) (KeepBut.of_below hb g none) (.inl rfl)); have n4_ := Aside0.mk (below_step (by repeat (first | (with_reducible first | exact HB.out | apply below_alloc | apply pw_below_drewN | apply below_drew1 | refine below_set ?_ (IsS77.ge HI0.out)) | exact HB.out)) hb); clear HO_5; clear HI0; clear HK; clear HB; have HO_5 := n0_; have HO162 := n1_; have HI0 := n2_; have HK := n3_; have HB := n4_; clear n0_ n1_ n2_ n3_ n4_; clear hb ho82; obtain ⟨Ao83, co83, eo83⟩ := Kd.R_slice HO162.out; subst eo83; have p163 : 0 ≤ ((ji74) : Int) := of_decide_eq_true (by first | (with_reducible assumption) | assumption); have q163 : (ji74) < (y160.length : Int) := of_decide_eq_true (by first | (with_reducible assumption) | assumption); obtain ⟨ad163, e163, hx163_0⟩ := Kd.at_int (Kd.R_reads' HO162.out).2.2 (ji74) p163 q163; cases e163; replace p163 := eq_true p163; replace q163 := eq_true q163; have p79 : 0 ≤ (x39_2 : Int) := of_decide_eq_true (by first | (with_reducible assumption) | assumption); have q79 : (x39_2 : Int) < ((x5_2.length : Int) : Int) := of_decide_eq_true (by first | (with_reducible assumption) | assumption); obtain ⟨go79, co79, eo79, gb79, gl79, cl79, HG79⟩ := Kd.R_form HO_5.out (by omega); (first | cases eo79 | (injection eo79 with ea_ en_ ec_; (first | subst ea_ | (injection ea_ with ea_; subst ea_)); subst ec_; clear en_)); have GB79 := Aside0.mk gb79; have GG79 := Aside0.mk HG79; clear gb79 gl79 HG79; obtain ⟨hx79_0, hf79_0⟩ := Kd.R_celln 0 HO_5.out (x39_2 : Int) p79 q79; replace p79 := eq_true p79; replace q79 := eq_true q79; have n_ := Aside0.mk (Kd.R_mono (ok' := (fun k_ => some k_ ≠ (.slice (some ad163) y160.length co83 : Value).ownBlock)) HO_5.out (fun k_ hk => hk.2)); clear HO_5; have HO_5 := n_; clear n_; obtain ⟨hy84_, hz84_⟩ := Kd.R_celln 0 HO_5.out (x39_2 : Int) (of_decide_eq_true (by first | (with_reducible assumption) | assumption)) (of_decide_eq_true (by first | (with_reducible assumption) | assumption)); have HP84 := Kd.R_putg HO_5.out (x39_2 : Int) (rd y160 (ji74))) | ((with_reducible refine gate_store (t := 3) (p := 95) rfl ?_); refine store_event (t := 3) (p := 95) (v := ?vo_w85) (w1 := (w81.setCell ⟨go79, (x39_2 : Int).toNat, none⟩ (.int .i64 (rd y160 (ji74))))) ?hg ?ho ?hn ?hr ?_; (case ho => rfl); (case hg => rfl); (case hn => rfl); (case hr => first | (go_simp; done) | (go_simp; rfl)); intro w85 hw; have hg : w81.grownBy w85 (some go79) := (by rw [hw]; exact HP84.2); have hp_ : Kd.R (Kd.int .i64) 3 w85 w.heap.size (fun k_ => some k_ ≠ (.slice (some ad163) y160.length co83 : Value).ownBlock) (.slice (some ⟨go79, 0, none⟩) x5_2.length co9) y164 := (by rw [hw, Ny164.out]; exact HP84.1); clear HP84; have n0_ := Aside0.mk (hp_); have n1_ := Aside0.mk (IsS77.grown (by repeat (first | (with_reducible first | exact HI0.out | apply IsS77.alloc | apply IsS77.drewN | apply IsS77.drew | apply IsS77.set_1 | apply IsS77.set_2) | exact HI0.out)) hg (IsS77.own_ne HI0.out HO_5.out (by decide))); have n2_ := Aside0.mk (Kd.R_after (v := (.slice (some ⟨go79, 0, none⟩) x5_2.length co9)) (v1 := (.slice (some ⟨go79, 0, none⟩) x5_2.length co9)) (ok := (fun _ => True)) (by (with_reducible repeat (first | apply Kd.R_alloc | apply Kd.R_drewN | apply Kd.R_drew)); exact HO162.out) hg (.inl rfl)); have n3_ := Aside0.mk ((by rw [hw]; exact below_set (HB.out) (Nat.le_trans HL.out GB79.out) : Below w0.heap.size w0 w85)); have n4_ := Aside0.mk (KeepBut.trans (by repeat (first | (with_reducible first | exact HK.out | apply KeepBut.set_ | apply keep_drewN | apply keep_drew | apply keep_alloc) | exact HK.out)) (KeepBut.of_grown hg g) (Kd.R_base2 HO_5.out)); clear HO_5; clear HI0; clear HO162; clear HB; clear HK; have HO_5 := n0_; have HI0 := n1_; have HO162 := n2_; have HB := n3_; have HK := n4_; clear n0_ n1_ n2_ n3_ n4_; clear hg hw hp_))
                                                  (try simp only [← hl5_2])
                                                  go_roundg kj66
                                                  case measure => have := HK1.out; have := HK2.out; have := HJ28.out; have := HJ47.out; have := HJ66.out; omega
                                                  case rel => exact ⟨(y164), (wrap64 (x39_2 + 1)), (t158), (t159), (by first | rfl | (simp; done) | (simp [*]; done)), H', ⟨by have := HK1.out; have := HK2.out; have := HJ28.out; have := HJ47.out; have := HJ66.out; omega⟩, ⟨by (try simp only [hl5_1]); (try simp only [hl5_2]); (with_reducible repeat (first | apply Kd.R_alloc | apply Kd.R_drewN | apply Kd.R_drew)); exact Kd.R_mono HO_5.out (fun _ hk => trivial)⟩, ⟨by repeat (first | (with_reducible first | exact HI0.out | apply IsS77.alloc | apply IsS77.drewN | apply IsS77.drew | apply IsS77.set_1 | apply IsS77.set_2) | exact HI0.out)⟩, ⟨by repeat (first | (with_reducible first | exact HK.out | apply KeepBut.set_ | apply keep_drewN | apply keep_drew | apply keep_alloc) | exact HK.out)⟩, ⟨by repeat (first | (with_reducible first | exact HB.out | apply below_alloc | apply pw_below_drewN | apply below_drew1 | refine below_set ?_ (IsS77.ge HI0.out)) | exact HB.out)⟩⟩
                                                · rw [if_neg c78] at H
                                                  exact absurd H (by simp)
                                              · rw [if_neg c77] at H
                                                exact absurd H (by simp)
                                            · rw [if_neg c76] at H
                                              exact absurd H (by simp)
                                          · rw [if_neg c75] at H
                                            exact absurd H (by simp)
                                      · replace c70 := Bool.eq_false_iff.mpr c70
                                        subst c70
                                        have H1 : ((spec_l1Cur_one.f s0_0 x1001_2 x1002_2 9).bind fun bt165 => (if bt165.1 = true then (spec_l1Cur_opposite.l1 kj66 (wrap64 (1 + t118)) x5_2 t135 (x5_1.length : Int) (wrap64 (x39_2 + 1)) s0_0 bt165.2.1 bt165.2.2) else ((some (([1, 2, (-1), (-2)] : List Int) : List Int)).bind fun y168 => (if 0 ≤ (Int.tmod (wrap64 (3 + t135)) 4) then (if (Int.tmod (wrap64 (3 + t135)) 4) < (y168.length : Int) then (if 0 ≤ x39_2 then (if x39_2 < (x5_2.length : Int) then (spec_l1Cur_opposite.l1 kj66 (wrap64 (1 + t118)) (x5_2.set (x39_2 : Int).toNat (rd y168 (Int.tmod (wrap64 (3 + t135)) 4))) t135 (x5_1.length : Int) (wrap64 (x39_2 + 1)) s0_0 bt165.2.1 bt165.2.2) else (none)) else (none)) else (none)) else (none))))) = some (r1, r2, r3, r4) := by rw [if_neg (show ¬ (false = true) by decide)] at H; exact H
                                        clear H
                                        have H := H1
                                        clear H1
                                        replace H := Option.bind_eq_some_iff.mp H
                                        obtain ⟨⟨t165, t166, t167⟩, A860, H⟩ := H
                                        replace H : (if t165 = true then (spec_l1Cur_opposite.l1 kj66 (wrap64 (1 + t118)) x5_2 t135 (x5_1.length : Int) (wrap64 (x39_2 + 1)) s0_0 t166 t167) else ((some (([1, 2, (-1), (-2)] : List Int) : List Int)).bind fun y168 => (if 0 ≤ (Int.tmod (wrap64 (3 + t135)) 4) then (if (Int.tmod (wrap64 (3 + t135)) 4) < (y168.length : Int) then (if 0 ≤ x39_2 then (if x39_2 < (x5_2.length : Int) then (spec_l1Cur_opposite.l1 kj66 (wrap64 (1 + t118)) (x5_2.set (x39_2 : Int).toNat (rd y168 (Int.tmod (wrap64 (3 + t135)) 4))) t135 (x5_1.length : Int) (wrap64 (x39_2 + 1)) s0_0 t166 t167) else (none)) else (none)) else (none)) else (none)))) = some (r1, r2, r3, r4) := H
                                        have A86 := Aside0.mk A860
                                        clear A860
                                        by_cases c87 : t165 = true
                                        · subst c87
                                          have H1 : (spec_l1Cur_opposite.l1 kj66 (wrap64 (1 + t118)) x5_2 t135 (x5_1.length : Int) (wrap64 (x39_2 + 1)) s0_0 t166 t167) = some (r1, r2, r3, r4) := by rw [if_pos rfl] at H; exact H
                                          clear H
                                          have H := H1
                                          clear H1
                                          have H' := Aside0.mk H
                                          clear H
                                          go_wp2_with (first | ((with_reducible refine gate_callee (f := 120) rfl ?_); refine goesL_ (some 84) rfl rfl Try.func120 (by kernel_rfl) rfl #[.pointer (some ⟨g, 0, none⟩), .int .i64 9] rfl (by (try simp only [List.map_toArray, List.map_cons, List.map_nil]); first | done | rfl | (simp only [List.length_drop, List.length_take]; rfl)) ?_; (with_reducible refine (spec_l1Cur_one.calls g s0_0 x1001_2 x1002_2 9 true t166 t167 w0 _ ?side1 ?side2 A86.out).mono ?_); (case side1 => repeat (first | (with_reducible first | exact HI0.out | apply IsS77.alloc | apply IsS77.drewN | apply IsS77.drew | apply IsS77.set_1 | apply IsS77.set_2) | exact HI0.out)); (case side2 => repeat (first | (with_reducible first | exact HB.out | apply below_alloc | apply pw_below_drewN | apply below_drew1 | refine below_set ?_ (IsS77.ge HI0.out)) | exact HB.out)); rintro e w88 ⟨rfl, hi, hb, hk⟩; refine ⟨_, rfl, ?_⟩; have n0_ := Aside0.mk (Kd.R_mono (Kd.R_keep (IsS77.apart (show IsS77 w0 _ g s0_0 x1001_2 x1002_2 from by repeat (first | (with_reducible first | exact HI0.out | apply IsS77.alloc | apply IsS77.drewN | apply IsS77.drew | apply IsS77.set_1 | apply IsS77.set_2) | exact HI0.out)) (by (with_reducible repeat (first | apply Kd.R_alloc | apply Kd.R_drewN | apply Kd.R_drew)); exact HO_5.out) (by decide)) hk (fun _ h => h.2)) (fun _ h => h.1)); have n1_ := Aside0.mk (KeepBut.trans (by repeat (first | (with_reducible first | exact HK.out | apply KeepBut.set_ | apply keep_drewN | apply keep_drew | apply keep_alloc) | exact HK.out)) hk (.inl rfl)); have n2_ := Aside0.mk (hb); have n3_ := Aside0.mk (hi); clear HO_5; clear HK; clear HB; clear HI0; have HO_5 := n0_; have HK := n1_; have HB := n2_; have HI0 := n3_; clear n0_ n1_ n2_ n3_; (try clear hb); (try clear hb2); (try clear hk); (try clear hi)))
                                          (try simp only [← hl5_2])
                                          go_roundg kj66
                                          case measure => have := HK1.out; have := HK2.out; have := HJ28.out; have := HJ47.out; have := HJ66.out; omega
                                          case rel => exact ⟨(x5_2), (wrap64 (x39_2 + 1)), (t166), (t167), (by first | rfl | (simp; done) | (simp [*]; done)), H', ⟨by have := HK1.out; have := HK2.out; have := HJ28.out; have := HJ47.out; have := HJ66.out; omega⟩, ⟨by (try simp only [hl5_1]); (try simp only [hl5_2]); (with_reducible repeat (first | apply Kd.R_alloc | apply Kd.R_drewN | apply Kd.R_drew)); exact HO_5.out⟩, ⟨by repeat (first | (with_reducible first | exact HI0.out | apply IsS77.alloc | apply IsS77.drewN | apply IsS77.drew | apply IsS77.set_1 | apply IsS77.set_2) | exact HI0.out)⟩, ⟨by repeat (first | (with_reducible first | exact HK.out | apply KeepBut.set_ | apply keep_drewN | apply keep_drew | apply keep_alloc) | exact HK.out)⟩, ⟨by repeat (first | (with_reducible first | exact HB.out | apply below_alloc | apply pw_below_drewN | apply below_drew1 | refine below_set ?_ (IsS77.ge HI0.out)) | exact HB.out)⟩⟩
                                        · replace c87 := Bool.eq_false_iff.mpr c87
                                          subst c87
                                          have H1 : ((some (([1, 2, (-1), (-2)] : List Int) : List Int)).bind fun y168 => (if 0 ≤ (Int.tmod (wrap64 (3 + t135)) 4) then (if (Int.tmod (wrap64 (3 + t135)) 4) < (y168.length : Int) then (if 0 ≤ x39_2 then (if x39_2 < (x5_2.length : Int) then (spec_l1Cur_opposite.l1 kj66 (wrap64 (1 + t118)) (x5_2.set (x39_2 : Int).toNat (rd y168 (Int.tmod (wrap64 (3 + t135)) 4))) t135 (x5_1.length : Int) (wrap64 (x39_2 + 1)) s0_0 t166 t167) else (none)) else (none)) else (none)) else (none))) = some (r1, r2, r3, r4) := by rw [if_neg (show ¬ (false = true) by decide)] at H; exact H
                                          clear H
                                          have H := H1
                                          clear H1
                                          obtain ⟨y168, hy168⟩ : ∃ y_ : List Int, y_ = (([1, 2, (-1), (-2)] : List Int)) := ⟨_, rfl⟩
                                          replace H : (if 0 ≤ (Int.tmod (wrap64 (3 + t135)) 4) then (if (Int.tmod (wrap64 (3 + t135)) 4) < (y168.length : Int) then (if 0 ≤ x39_2 then (if x39_2 < (x5_2.length : Int) then (spec_l1Cur_opposite.l1 kj66 (wrap64 (1 + t118)) (x5_2.set (x39_2 : Int).toNat (rd y168 (Int.tmod (wrap64 (3 + t135)) 4))) t135 (x5_1.length : Int) (wrap64 (x39_2 + 1)) s0_0 t166 t167) else (none)) else (none)) else (none)) else (none)) = some (r1, r2, r3, r4) := by first | (rw [hy168]; with_reducible exact H) | (have H2_ := (Option.bind_some _ _).symm.trans H; rw [hy168]; with_reducible exact H2_) | (have H2_ := (Option.bind_some _ _).symm.trans H; with_reducible exact H2_) | with_reducible exact H | (rw [hy168]; exact H) | exact H
                                          have Ny168 := Aside0.mk hy168
                                          clear hy168
                                          obtain ⟨ji89, hji89⟩ : ∃ j_ : Int, (Int.tmod (wrap64 (3 + t135)) 4) = j_ := ⟨_, rfl⟩
                                          have hjx89 : Int.tmod (IntKind.i64.wrap (3 + t135)) (4 : Int) = ji89 := (congrArg (fun z => Int.tmod z (4 : Int)) (IntWalk.i64_left (3 + t135))).trans hji89
                                          replace H : (if 0 ≤ (ji89) then (if (ji89) < (y168.length : Int) then (if 0 ≤ x39_2 then (if x39_2 < (x5_2.length : Int) then (spec_l1Cur_opposite.l1 kj66 (wrap64 (1 + t118)) (x5_2.set (x39_2 : Int).toNat (rd y168 (ji89))) t135 (x5_1.length : Int) (wrap64 (x39_2 + 1)) s0_0 t166 t167) else (none)) else (none)) else (none)) else (none)) = some (r1, r2, r3, r4) := by first | (rw [hji89] at H; exact H) | (simp only [hji89] at H ⊢; exact H)
                                          (try rw [hji89] at A86)
                                          by_cases c90 : 0 ≤ (ji89)
                                          · rw [if_pos c90] at H
                                            have c90b0 : decide (0 ≤ (ji89)) = true := decide_eq_true c90
                                            clear c90
                                            by_cases c91 : (ji89) < (y168.length : Int)
                                            · rw [if_pos c91] at H
                                              have c91b0 : decide ((ji89) < (y168.length : Int)) = true := decide_eq_true c91
                                              try (have c91b0e0 := c91b0; simp only [hl5_1] at c91b0e0)
                                              try (have c91b0e1 := c91b0; simp only [hl5_2] at c91b0e1)
                                              clear c91
                                              by_cases c92 : 0 ≤ x39_2
                                              · rw [if_pos c92] at H
                                                have c92b0 : decide (0 ≤ x39_2) = true := decide_eq_true c92
                                                clear c92
                                                by_cases c93 : x39_2 < (x5_2.length : Int)
                                                · rw [if_pos c93] at H
                                                  have c93b0 : decide (x39_2 < (x5_2.length : Int)) = true := decide_eq_true c93
                                                  try (have c93b0e0 := c93b0; simp only [hl5_1] at c93b0e0)
                                                  try (have c93b0e1 := c93b0; simp only [hl5_2] at c93b0e1)
                                                  clear c93
                                                  obtain ⟨y172, hy172⟩ : ∃ y_ : List Int, y_ = (x5_2.set (x39_2 : Int).toNat (rd y168 (ji89))) := ⟨_, rfl⟩
                                                  replace H : (spec_l1Cur_opposite.l1 kj66 (wrap64 (1 + t118)) y172 t135 (x5_1.length : Int) (wrap64 (x39_2 + 1)) s0_0 t166 t167) = some (r1, r2, r3, r4) := by first | (rw [hy172]; with_reducible exact H) | (have H2_ := (Option.bind_some _ _).symm.trans H; rw [hy172]; with_reducible exact H2_) | (have H2_ := (Option.bind_some _ _).symm.trans H; with_reducible exact H2_) | with_reducible exact H | (rw [hy172]; exact H) | exact H
                                                  have Ny172 := Aside0.mk hy172
                                                  clear hy172
                                                  have H' := Aside0.mk H
                                                  clear H
                                                  go_wp2_with (first | ((with_reducible refine gate_callee (f := 120) rfl ?_); refine goesL_ (some 84) rfl rfl Try.func120 (by kernel_rfl) rfl #[.pointer (some ⟨g, 0, none⟩), .int .i64 9] rfl (by (try simp only [List.map_toArray, List.map_cons, List.map_nil]); first | done | rfl | (simp only [List.length_drop, List.length_take]; rfl)) ?_; (with_reducible refine (spec_l1Cur_one.calls g s0_0 x1001_2 x1002_2 9 false t166 t167 w0 _ ?side1 ?side2 A86.out).mono ?_); (case side1 => repeat (first | (with_reducible first | exact HI0.out | apply IsS77.alloc | apply IsS77.drewN | apply IsS77.drew | apply IsS77.set_1 | apply IsS77.set_2) | exact HI0.out)); (case side2 => repeat (first | (with_reducible first | exact HB.out | apply below_alloc | apply pw_below_drewN | apply below_drew1 | refine below_set ?_ (IsS77.ge HI0.out)) | exact HB.out)); rintro e w95 ⟨rfl, hi, hb, hk⟩; refine ⟨_, rfl, ?_⟩; have n0_ := Aside0.mk (Kd.R_mono (Kd.R_keep (IsS77.apart (show IsS77 w0 _ g s0_0 x1001_2 x1002_2 from by repeat (first | (with_reducible first | exact HI0.out | apply IsS77.alloc | apply IsS77.drewN | apply IsS77.drew | apply IsS77.set_1 | apply IsS77.set_2) | exact HI0.out)) (by (with_reducible repeat (first | apply Kd.R_alloc | apply Kd.R_drewN | apply Kd.R_drew)); exact HO_5.out) (by decide)) hk (fun _ h => h.2)) (fun _ h => h.1)); have n1_ := Aside0.mk (KeepBut.trans (by repeat (first | (with_reducible first | exact HK.out | apply KeepBut.set_ | apply keep_drewN | apply keep_drew | apply keep_alloc) | exact HK.out)) hk (.inl rfl)); have n2_ := Aside0.mk (hb); have n3_ := Aside0.mk (hi); clear HO_5; clear HK; clear HB; clear HI0; have HO_5 := n0_; have HK := n1_; have HB := n2_; have HI0 := n3_; clear n0_ n1_ n2_ n3_; (try clear hb); (try clear hb2); (try clear hk); (try clear hi)) | ((with_reducible refine gate_dst (N := 88) rfl ?_); refine Kd.R_lit (Kd.int .i64) _ 3 ?hg (N := 88) ?hd (xs := ([1, 2, (-1), (-2)] : List Int)) (inner := [.int .i64 1, .int .i64 2, .int .i64 (-1), .int .i64 (-2)]) (ok := fun _ => True) (okp := fun _ => True) ?hr ?hp (fun _ hk => hk) trivial (Below.refl _ _) (Nat.le_refl _) (by simp) ?_; (case hd => rfl); (case hg => rfl); (case hr => first | (go_simp; done) | (go_simp; rfl)); (case hp => exact (Reps.one (show Kd.M (Kd.int .i64) _ _ _ 1 [.int .i64 1] from rfl) (Reps.one (show Kd.M (Kd.int .i64) _ _ _ 2 [.int .i64 2] from rfl) (Reps.one (show Kd.M (Kd.int .i64) _ _ _ (-1) [.int .i64 (-1)] from rfl) (Reps.one (show Kd.M (Kd.int .i64) _ _ _ (-2) [.int .i64 (-2)] from rfl) (Reps.none _ _)))))); intro v169 w96 ho97 hb hg_ hnew_; clear hg_ hnew_; (first | rw [← Ny168.out] at ho97 | (simp only [Int.reduceToNat] at ho97; rw [← Ny168.out] at ho97)); have n0_ := Aside0.mk (Kd.R_elder' (by (with_reducible repeat (first | apply Kd.R_alloc | apply Kd.R_drewN | apply Kd.R_drew)); exact HO_5.out) (Kd.R_base ho97) hb); have n1_ := Aside0.mk (Kd.R_lower (Kd.R_new' ho97 (Kd.R_lt (by (with_reducible repeat (first | apply Kd.R_alloc | apply Kd.R_drewN | apply Kd.R_drew)); exact HO_5.out))) (keep_size (w := w) (g := g) (row := none) (by repeat (first | (with_reducible first | exact HK.out | apply KeepBut.set_ | apply keep_drewN | apply keep_drew | apply keep_alloc) | exact HK.out)))); have n2_ := Aside0.mk (IsS77.below (by repeat (first | (with_reducible first | exact HI0.out | apply IsS77.alloc | apply IsS77.drewN | apply IsS77.drew | apply IsS77.set_1 | apply IsS77.set_2) | exact HI0.out)) hb); have n3_ := Aside0.mk (KeepBut.trans (by repeat (first | (with_reducible first | exact HK.out | apply KeepBut.set_ | apply keep_drewN | apply keep_drew | apply keep_alloc) | exact HK.out)) (KeepBut.of_below hb g none) (.inl rfl)); have n4_ := Aside0.mk (below_step (by repeat (first | (with_reducible first | exact HB.out | apply below_alloc | apply pw_below_drewN | apply below_drew1 | refine below_set ?_ (IsS77.ge HI0.out)) | exact HB.out)) hb); clear HO_5; clear HI0; clear HK; clear HB; have HO_5 := n0_; have HO170 := n1_; have HI0 := n2_; have HK := n3_; have HB := n4_; clear n0_ n1_ n2_ n3_ n4_; clear hb ho97; obtain ⟨Ao98, co98, eo98⟩ := Kd.R_slice HO170.out; subst eo98; have p171 : 0 ≤ ((ji89) : Int) := of_decide_eq_true (by first | (with_reducible assumption) | assumption); have q171 : (ji89) < (y168.length : Int) := of_decide_eq_true (by first | (with_reducible assumption) | assumption); obtain ⟨ad171, e171, hx171_0⟩ := Kd.at_int (Kd.R_reads' HO170.out).2.2 (ji89) p171 q171; cases e171; replace p171 := eq_true p171; replace q171 := eq_true q171; have p94 : 0 ≤ (x39_2 : Int) := of_decide_eq_true (by first | (with_reducible assumption) | assumption); have q94 : (x39_2 : Int) < ((x5_2.length : Int) : Int) := of_decide_eq_true (by first | (with_reducible assumption) | assumption); obtain ⟨go94, co94, eo94, gb94, gl94, cl94, HG94⟩ := Kd.R_form HO_5.out (by omega); (first | cases eo94 | (injection eo94 with ea_ en_ ec_; (first | subst ea_ | (injection ea_ with ea_; subst ea_)); subst ec_; clear en_)); have GB94 := Aside0.mk gb94; have GG94 := Aside0.mk HG94; clear gb94 gl94 HG94; obtain ⟨hx94_0, hf94_0⟩ := Kd.R_celln 0 HO_5.out (x39_2 : Int) p94 q94; replace p94 := eq_true p94; replace q94 := eq_true q94; have n_ := Aside0.mk (Kd.R_mono (ok' := (fun k_ => some k_ ≠ (.slice (some ad171) y168.length co98 : Value).ownBlock)) HO_5.out (fun k_ hk => hk.2)); clear HO_5; have HO_5 := n_; clear n_; obtain ⟨hy99_, hz99_⟩ := Kd.R_celln 0 HO_5.out (x39_2 : Int) (of_decide_eq_true (by first | (with_reducible assumption) | assumption)) (of_decide_eq_true (by first | (with_reducible assumption) | assumption)); have HP99 := Kd.R_putg HO_5.out (x39_2 : Int) (rd y168 (ji89))) | ((with_reducible refine gate_store (t := 3) (p := 95) rfl ?_); refine store_event (t := 3) (p := 95) (v := ?vo_w100) (w1 := (w96.setCell ⟨go94, (x39_2 : Int).toNat, none⟩ (.int .i64 (rd y168 (ji89))))) ?hg ?ho ?hn ?hr ?_; (case ho => rfl); (case hg => rfl); (case hn => rfl); (case hr => first | (go_simp; done) | (go_simp; rfl)); intro w100 hw; have hg : w96.grownBy w100 (some go94) := (by rw [hw]; exact HP99.2); have hp_ : Kd.R (Kd.int .i64) 3 w100 w.heap.size (fun k_ => some k_ ≠ (.slice (some ad171) y168.length co98 : Value).ownBlock) (.slice (some ⟨go94, 0, none⟩) x5_2.length co9) y172 := (by rw [hw, Ny172.out]; exact HP99.1); clear HP99; have n0_ := Aside0.mk (hp_); have n1_ := Aside0.mk (IsS77.grown (by repeat (first | (with_reducible first | exact HI0.out | apply IsS77.alloc | apply IsS77.drewN | apply IsS77.drew | apply IsS77.set_1 | apply IsS77.set_2) | exact HI0.out)) hg (IsS77.own_ne HI0.out HO_5.out (by decide))); have n2_ := Aside0.mk (Kd.R_after (v := (.slice (some ⟨go94, 0, none⟩) x5_2.length co9)) (v1 := (.slice (some ⟨go94, 0, none⟩) x5_2.length co9)) (ok := (fun _ => True)) (by (with_reducible repeat (first | apply Kd.R_alloc | apply Kd.R_drewN | apply Kd.R_drew)); exact HO170.out) hg (.inl rfl)); have n3_ := Aside0.mk ((by rw [hw]; exact below_set (HB.out) (Nat.le_trans HL.out GB94.out) : Below w0.heap.size w0 w100)); have n4_ := Aside0.mk (KeepBut.trans (by repeat (first | (with_reducible first | exact HK.out | apply KeepBut.set_ | apply keep_drewN | apply keep_drew | apply keep_alloc) | exact HK.out)) (KeepBut.of_grown hg g) (Kd.R_base2 HO_5.out)); clear HO_5; clear HI0; clear HO170; clear HB; clear HK; have HO_5 := n0_; have HI0 := n1_; have HO170 := n2_; have HB := n3_; have HK := n4_; clear n0_ n1_ n2_ n3_ n4_; clear hg hw hp_))
                                                  (try simp only [← hl5_2])
                                                  go_roundg kj66
                                                  case measure => have := HK1.out; have := HK2.out; have := HJ28.out; have := HJ47.out; have := HJ66.out; omega
                                                  case rel => exact ⟨(y172), (wrap64 (x39_2 + 1)), (t166), (t167), (by first | rfl | (simp; done) | (simp [*]; done)), H', ⟨by have := HK1.out; have := HK2.out; have := HJ28.out; have := HJ47.out; have := HJ66.out; omega⟩, ⟨by (try simp only [hl5_1]); (try simp only [hl5_2]); (with_reducible repeat (first | apply Kd.R_alloc | apply Kd.R_drewN | apply Kd.R_drew)); exact Kd.R_mono HO_5.out (fun _ hk => trivial)⟩, ⟨by repeat (first | (with_reducible first | exact HI0.out | apply IsS77.alloc | apply IsS77.drewN | apply IsS77.drew | apply IsS77.set_1 | apply IsS77.set_2) | exact HI0.out)⟩, ⟨by repeat (first | (with_reducible first | exact HK.out | apply KeepBut.set_ | apply keep_drewN | apply keep_drew | apply keep_alloc) | exact HK.out)⟩, ⟨by repeat (first | (with_reducible first | exact HB.out | apply below_alloc | apply pw_below_drewN | apply below_drew1 | refine below_set ?_ (IsS77.ge HI0.out)) | exact HB.out)⟩⟩
                                                · rw [if_neg c93] at H
                                                  exact absurd H (by simp)
                                              · rw [if_neg c92] at H
                                                exact absurd H (by simp)
                                            · rw [if_neg c91] at H
                                              exact absurd H (by simp)
                                          · rw [if_neg c90] at H
                                            exact absurd H (by simp)
                    · rw [if_neg c27] at H
                      have c27b0 : decide (x39_2 < (x5_1.length : Int)) = false := decide_eq_false c27
                      try (have c27b0e0 := c27b0; simp only [hl5_1] at c27b0e0)
                      try (have c27b0e1 := c27b0; simp only [hl5_2] at c27b0e1)
                      clear c27
                      (first | rw [c27b0] | (simp only [i64_w, i32_w]; rw [c27b0]) | skip)
                      have H' := Aside0.mk H
                      clear H
                      go_wp2
                      (try simp only [← hl5_2])
                      go_meet
                      case rel => exact ⟨_, (x5_2), (x1001_2), (x1002_2), H', ⟨by have := HK1.out; have := HK2.out; first | omega | exact Nat.le_refl _⟩, ⟨by (try simp only [hl5_1]); (try simp only [hl5_2]); (with_reducible repeat (first | apply Kd.R_alloc | apply Kd.R_drewN | apply Kd.R_drew)); exact HO_5.out⟩, ⟨by repeat (first | (with_reducible first | exact HI0.out | apply IsS77.alloc | apply IsS77.drewN | apply IsS77.drew | apply IsS77.set_1 | apply IsS77.set_2) | exact HI0.out)⟩, ⟨by repeat (first | (with_reducible first | exact HK.out | apply KeepBut.set_ | apply keep_drewN | apply keep_drew | apply keep_alloc) | exact HK.out)⟩, ⟨by repeat (first | (with_reducible first | exact HB.out | apply below_alloc | apply pw_below_drewN | apply below_drew1 | refine below_set ?_ (IsS77.ge HI0.out)) | exact HB.out)⟩⟩
              · replace c24 := Bool.eq_false_iff.mpr c24
                subst c24
                have H1 : (spec_l1Cur_opposite.j5 k1 (wrap64 (1 + t118)) x5_1 s0_0 t133 t134) = some (r1, r2, r3, r4) := by rw [if_neg (show ¬ (false = true) by decide)] at H; exact H
                clear H
                have H := H1
                clear H1
                have H' := Aside0.mk H
                clear H
                go_wp2
                go_meet
                case rel => exact ⟨_, (x5_1), (t133), (t134), H', ⟨by have := HK1.out; first | omega | exact Nat.le_refl _⟩, ⟨by (try simp only [hl5_1]); (with_reducible repeat (first | apply Kd.R_alloc | apply Kd.R_drewN | apply Kd.R_drew)); exact HO_5.out⟩, ⟨by repeat (first | (with_reducible first | exact HI0.out | apply IsS77.alloc | apply IsS77.drewN | apply IsS77.drew | apply IsS77.set_1 | apply IsS77.set_2) | exact HI0.out)⟩, ⟨by repeat (first | (with_reducible first | exact HK.out | apply KeepBut.set_ | apply keep_drewN | apply keep_drew | apply keep_alloc) | exact HK.out)⟩, ⟨by repeat (first | (with_reducible first | exact HB.out | apply below_alloc | apply pw_below_drewN | apply below_drew1 | refine below_set ?_ (IsS77.ge HI0.out)) | exact HB.out)⟩⟩
            case rest =>
              clear HC22
              try clear c1
              try clear p1
              try clear q1
              try clear hx1
              try clear hf1
              try clear c2
              try clear p2
              try clear c3
              try clear c4
              try clear c4b0
              try clear c4b1
              try clear p4
              try clear q4
              try clear hx4
              try clear hf4
              try clear c5
              try clear c5b0
              try clear c5b1
              try clear c6
              try clear p6
              try clear q6
              try clear hx6
              try clear hf6
              try clear c7
              try clear p7
              try clear q7
              try clear hx7
              try clear hf7
              try clear c8
              try clear c9
              try clear p9
              try clear q9
              try clear hx9
              try clear hf9
              try clear c10
              try clear c10b0
              try clear c11
              try clear c12
              try clear c12b0
              try clear c13
              try clear c13b0
              try clear p14
              try clear q14
              try clear hx14
              try clear hf14
              try clear p15
              try clear q15
              try clear hx15
              try clear p16
              try clear q16
              try clear hx16
              try clear p17
              try clear q17
              try clear hx17
              try clear c24
              try clear c27
              try clear c27b0
              try clear c30
              try clear c30b0
              try clear c31
              try clear c31b0
              try clear c32
              try clear c34
              try clear c37
              try clear c37b0
              try clear c38
              try clear c38b0
              try clear c39
              try clear c39b0
              try clear c40
              try clear c40b0
              try clear p41
              try clear q41
              try clear hx41
              try clear hf41
              try clear c49
              try clear c49b0
              try clear c51
              try clear c53
              try clear c56
              try clear c56b0
              try clear c57
              try clear c57b0
              try clear c58
              try clear c58b0
              try clear c59
              try clear c59b0
              try clear p60
              try clear q60
              try clear hx60
              try clear hf60
              try clear p64
              try clear c68
              try clear c68b0
              try clear c69
              try clear c69b0
              try clear c70
              try clear c72
              try clear c75
              try clear c75b0
              try clear c76
              try clear c76b0
              try clear c77
              try clear c77b0
              try clear c78
              try clear c78b0
              try clear p79
              try clear q79
              try clear hx79
              try clear hf79
              try clear c87
              try clear c90
              try clear c90b0
              try clear c91
              try clear c91b0
              try clear c92
              try clear c92b0
              try clear c93
              try clear c93b0
              try clear p94
              try clear q94
              try clear hx94
              try clear hf94
              try clear hx146_0
              try clear hx14_0
              try clear hx155_0
              try clear hx163_0
              try clear hx171_0
              try clear hx41_0
              try clear hx60_0
              try clear hx79_0
              try clear hx94_0
              try clear p1
              try clear p14
              try clear p146
              try clear p15
              try clear p155
              try clear p163
              try clear p171
              try clear p2
              try clear p4
              try clear p41
              try clear p6
              try clear p60
              try clear p64
              try clear p79
              try clear p94
              try clear q1
              try clear q14
              try clear q146
              try clear q15
              try clear q155
              try clear q163
              try clear q171
              try clear q4
              try clear q41
              try clear q6
              try clear q60
              try clear q79
              try clear q94
              obtain ⟨kq, x5_21, x1001_21, x1002_21, HA, HJ21, HO_5, HI0, HK, HB⟩ := hcut
              have hl5_21 := (Kd.R_reads' HO_5.out).1
              rw [hl5_21] at HO_5
              (try simp only [hl5_21])
              cases kq with
              | zero => exact absurd HA.out (by simp [spec_l1Cur_opposite.j5])
              | succ kj21 =>
                have H := HA.out
                clear HA
                simp only [spec_l1Cur_opposite.j5] at H
                have H' := Aside0.mk H
                clear H
                go_wp2
                go_loopg [99] kj21 (fun kq v99 w' => ∃ (x5_3 : List Int) (x99_3 : Int), v99 = .int .i64 x99_3 ∧ Aside0 (spec_l1Cur_opposite.l2 kq (wrap64 (1 + t118)) x5_3 (x5_21.length : Int) x99_3 s0_0 x1001_21 x1002_21 = some (r1, r2, r3, r4)) ∧ Aside0 (kq ≤ kj21) ∧ Aside0 (Kd.R (Kd.int .i64) 3 w' w.heap.size (fun _ => True) (.slice Ao9 x5_21.length co9) x5_3) ∧ Aside0 (IsS77 w0 w' g s0_0 x1001_21 x1002_21) ∧ Aside0 (KeepBut w w' g none) ∧ Aside0 (Below w0.heap.size w0 w'))
                case atStart => exact ⟨(x5_21), (0), (by first | rfl | (simp; done) | (simp [*]; done)), H', ⟨Nat.le_refl _⟩, ⟨by (try simp only [hl5_1]); (try simp only [hl5_21]); (with_reducible repeat (first | apply Kd.R_alloc | apply Kd.R_drewN | apply Kd.R_drew)); exact HO_5.out⟩, ⟨by repeat (first | (with_reducible first | exact HI0.out | apply IsS77.alloc | apply IsS77.drewN | apply IsS77.drew | apply IsS77.set_1 | apply IsS77.set_2) | exact HI0.out)⟩, ⟨by repeat (first | (with_reducible first | exact HK.out | apply KeepBut.set_ | apply keep_drewN | apply keep_drew | apply keep_alloc) | exact HK.out)⟩, ⟨by repeat (first | (with_reducible first | exact HB.out | apply below_alloc | apply pw_below_drewN | apply below_drew1 | refine below_set ?_ (IsS77.ge HI0.out)) | exact HB.out)⟩⟩
                case round =>
                  clear H'
                  try clear c1
                  try clear p1
                  try clear q1
                  try clear hx1
                  try clear hf1
                  try clear c2
                  try clear p2
                  try clear c3
                  try clear c4
                  try clear c4b0
                  try clear c4b1
                  try clear p4
                  try clear q4
                  try clear hx4
                  try clear hf4
                  try clear c5
                  try clear c5b0
                  try clear c5b1
                  try clear c6
                  try clear p6
                  try clear q6
                  try clear hx6
                  try clear hf6
                  try clear c7
                  try clear p7
                  try clear q7
                  try clear hx7
                  try clear hf7
                  try clear c8
                  try clear c9
                  try clear p9
                  try clear q9
                  try clear hx9
                  try clear hf9
                  try clear c10
                  try clear c10b0
                  try clear c11
                  try clear c12
                  try clear c12b0
                  try clear c13
                  try clear c13b0
                  try clear p14
                  try clear q14
                  try clear hx14
                  try clear hf14
                  try clear p15
                  try clear q15
                  try clear hx15
                  try clear p16
                  try clear q16
                  try clear hx16
                  try clear p17
                  try clear q17
                  try clear hx17
                  try clear c24
                  try clear c27
                  try clear c27b0
                  try clear c30
                  try clear c30b0
                  try clear c31
                  try clear c31b0
                  try clear c32
                  try clear c34
                  try clear c37
                  try clear c37b0
                  try clear c38
                  try clear c38b0
                  try clear c39
                  try clear c39b0
                  try clear c40
                  try clear c40b0
                  try clear p41
                  try clear q41
                  try clear hx41
                  try clear hf41
                  try clear c49
                  try clear c49b0
                  try clear c51
                  try clear c53
                  try clear c56
                  try clear c56b0
                  try clear c57
                  try clear c57b0
                  try clear c58
                  try clear c58b0
                  try clear c59
                  try clear c59b0
                  try clear p60
                  try clear q60
                  try clear hx60
                  try clear hf60
                  try clear p64
                  try clear c68
                  try clear c68b0
                  try clear c69
                  try clear c69b0
                  try clear c70
                  try clear c72
                  try clear c75
                  try clear c75b0
                  try clear c76
                  try clear c76b0
                  try clear c77
                  try clear c77b0
                  try clear c78
                  try clear c78b0
                  try clear p79
                  try clear q79
                  try clear hx79
                  try clear hf79
                  try clear c87
                  try clear c90
                  try clear c90b0
                  try clear c91
                  try clear c91b0
                  try clear c92
                  try clear c92b0
                  try clear c93
                  try clear c93b0
                  try clear p94
                  try clear q94
                  try clear hx94
                  try clear hf94
                  try clear hx146_0
                  try clear hx14_0
                  try clear hx155_0
                  try clear hx163_0
                  try clear hx171_0
                  try clear hx41_0
                  try clear hx60_0
                  try clear hx79_0
                  try clear hx94_0
                  try clear p1
                  try clear p14
                  try clear p146
                  try clear p15
                  try clear p155
                  try clear p16
                  try clear p163
                  try clear p17
                  try clear p171
                  try clear p2
                  try clear p4
                  try clear p41
                  try clear p6
                  try clear p60
                  try clear p64
                  try clear p7
                  try clear p79
                  try clear p9
                  try clear p94
                  try clear q1
                  try clear q14
                  try clear q146
                  try clear q15
                  try clear q155
                  try clear q16
                  try clear q163
                  try clear q17
                  try clear q171
                  try clear q4
                  try clear q41
                  try clear q6
                  try clear q60
                  try clear q7
                  try clear q79
                  try clear q9
                  try clear q94
                  obtain ⟨x5_3, x99_3, rfl, HA, HK3, HO_5, HI0, HK, HB⟩ := hrel
                  have hl5_3 := (Kd.R_reads' HO_5.out).1
                  rw [hl5_3] at HO_5
                  (try simp only [hl5_3])
                  cases gk with
                  | zero => exact absurd HA.out (by simp [spec_l1Cur_opposite.l2])
                  | succ k3 =>
                    have H := HA.out
                    clear HA
                    simp only [spec_l1Cur_opposite.l2] at H
                    by_cases c101 : x99_3 < (x5_21.length : Int)
                    · rw [if_pos c101] at H
                      have c101b0 : decide (x99_3 < (x5_21.length : Int)) = true := decide_eq_true c101
                      try (have c101b0e0 := c101b0; simp only [hl5_1] at c101b0e0)
                      try (have c101b0e1 := c101b0; simp only [hl5_2] at c101b0e1)
                      try (have c101b0e2 := c101b0; simp only [hl5_21] at c101b0e2)
                      try (have c101b0e3 := c101b0; simp only [hl5_3] at c101b0e3)
                      clear c101
                      replace H := Option.bind_eq_some_iff.mp H
                      obtain ⟨⟨t173, t174⟩, A1020, H⟩ := H
                      replace H : ((spec_l1Abs.f t173).bind fun t175 => (if t175 = (wrap64 (1 + t118)) then (if 0 ≤ x99_3 then (if x99_3 < (x5_3.length : Int) then (if 0 ≤ (wrap64 ((wrap64 ((x5_3.length : Int) - 1)) - x99_3)) then (if (wrap64 ((wrap64 ((x5_3.length : Int) - 1)) - x99_3)) < (x5_3.length : Int) then (spec_l1Cur_opposite.l2 k3 (wrap64 (1 + t118)) (x5_3.set ((wrap64 ((wrap64 ((x5_3.length : Int) - 1)) - x99_3)) : Int).toNat (wrap64 (-(rd x5_3 x99_3)))) (x5_21.length : Int) (wrap64 (x99_3 + 1)) s0_0 x1001_21 x1002_21) else (none)) else (none)) else (none)) else (none)) else ((spec_l1Abs.f t174).bind fun t178 => (if t178 = (wrap64 (1 + t118)) then (if 0 ≤ x99_3 then (if x99_3 < (x5_3.length : Int) then (if 0 ≤ (wrap64 ((wrap64 ((x5_3.length : Int) - 1)) - x99_3)) then (if (wrap64 ((wrap64 ((x5_3.length : Int) - 1)) - x99_3)) < (x5_3.length : Int) then (spec_l1Cur_opposite.l2 k3 (wrap64 (1 + t118)) (x5_3.set ((wrap64 ((wrap64 ((x5_3.length : Int) - 1)) - x99_3)) : Int).toNat (wrap64 (-(rd x5_3 x99_3)))) (x5_21.length : Int) (wrap64 (x99_3 + 1)) s0_0 x1001_21 x1002_21) else (none)) else (none)) else (none)) else (none)) else (spec_l1Cur_opposite.l2 k3 (wrap64 (1 + t118)) x5_3 (x5_21.length : Int) (wrap64 (x99_3 + 1)) s0_0 x1001_21 x1002_21))))) = some (r1, r2, r3, r4) := H
                      have A102 := Aside0.mk A1020
                      clear A1020
                      replace H := Option.bind_eq_some_iff.mp H
                      obtain ⟨t175, A1030, H⟩ := H
                      replace H : (if t175 = (wrap64 (1 + t118)) then (if 0 ≤ x99_3 then (if x99_3 < (x5_3.length : Int) then (if 0 ≤ (wrap64 ((wrap64 ((x5_3.length : Int) - 1)) - x99_3)) then (if (wrap64 ((wrap64 ((x5_3.length : Int) - 1)) - x99_3)) < (x5_3.length : Int) then (spec_l1Cur_opposite.l2 k3 (wrap64 (1 + t118)) (x5_3.set ((wrap64 ((wrap64 ((x5_3.length : Int) - 1)) - x99_3)) : Int).toNat (wrap64 (-(rd x5_3 x99_3)))) (x5_21.length : Int) (wrap64 (x99_3 + 1)) s0_0 x1001_21 x1002_21) else (none)) else (none)) else (none)) else (none)) else ((spec_l1Abs.f t174).bind fun t178 => (if t178 = (wrap64 (1 + t118)) then (if 0 ≤ x99_3 then (if x99_3 < (x5_3.length : Int) then (if 0 ≤ (wrap64 ((wrap64 ((x5_3.length : Int) - 1)) - x99_3)) then (if (wrap64 ((wrap64 ((x5_3.length : Int) - 1)) - x99_3)) < (x5_3.length : Int) then (spec_l1Cur_opposite.l2 k3 (wrap64 (1 + t118)) (x5_3.set ((wrap64 ((wrap64 ((x5_3.length : Int) - 1)) - x99_3)) : Int).toNat (wrap64 (-(rd x5_3 x99_3)))) (x5_21.length : Int) (wrap64 (x99_3 + 1)) s0_0 x1001_21 x1002_21) else (none)) else (none)) else (none)) else (none)) else (spec_l1Cur_opposite.l2 k3 (wrap64 (1 + t118)) x5_3 (x5_21.length : Int) (wrap64 (x99_3 + 1)) s0_0 x1001_21 x1002_21)))) = some (r1, r2, r3, r4) := H
                      have A103 := Aside0.mk A1030
                      clear A1030
                      by_cases c104 : t175 = (wrap64 (1 + t118))
                      · rw [if_pos c104] at H
                        have c104b0 : (t175 == (wrap64 (1 + t118))) = true := beq_iff_eq.mpr c104
                        have c104b1 : (t175 != (wrap64 (1 + t118))) = false := bne_eq_false_iff_eq.mpr c104
                        clear c104
                        by_cases c105 : 0 ≤ x99_3
                        · rw [if_pos c105] at H
                          have c105b0 : decide (0 ≤ x99_3) = true := decide_eq_true c105
                          clear c105
                          by_cases c106 : x99_3 < (x5_3.length : Int)
                          · rw [if_pos c106] at H
                            have c106b0 : decide (x99_3 < (x5_3.length : Int)) = true := decide_eq_true c106
                            try (have c106b0e0 := c106b0; simp only [hl5_1] at c106b0e0)
                            try (have c106b0e1 := c106b0; simp only [hl5_2] at c106b0e1)
                            try (have c106b0e2 := c106b0; simp only [hl5_21] at c106b0e2)
                            try (have c106b0e3 := c106b0; simp only [hl5_3] at c106b0e3)
                            clear c106
                            obtain ⟨ji107, hji107⟩ : ∃ j_ : Int, (wrap64 ((wrap64 ((x5_3.length : Int) - 1)) - x99_3)) = j_ := ⟨_, rfl⟩
                            replace H : (if 0 ≤ (ji107) then (if (ji107) < (x5_3.length : Int) then (spec_l1Cur_opposite.l2 k3 (wrap64 (1 + t118)) (x5_3.set ((ji107) : Int).toNat (wrap64 (-(rd x5_3 x99_3)))) (x5_21.length : Int) (wrap64 (x99_3 + 1)) s0_0 x1001_21 x1002_21) else (none)) else (none)) = some (r1, r2, r3, r4) := by first | (rw [hji107] at H; exact H) | (simp only [hji107] at H ⊢; exact H)
                            (try rw [hji107] at A102)
                            (try rw [hji107] at A103)
                            have hji107w : (IntKind.i64.wrap ((wrap64 ((x5_3.length : Int) - 1)) - x99_3)) = ji107 := (i64_w _).trans hji107
                            by_cases c108 : 0 ≤ (ji107)
                            · rw [if_pos c108] at H
                              have c108b0 : decide (0 ≤ (ji107)) = true := decide_eq_true c108
                              clear c108
                              by_cases c109 : (ji107) < (x5_3.length : Int)
                              · rw [if_pos c109] at H
                                have c109b0 : decide ((ji107) < (x5_3.length : Int)) = true := decide_eq_true c109
                                try (have c109b0e0 := c109b0; simp only [hl5_1] at c109b0e0)
                                try (have c109b0e1 := c109b0; simp only [hl5_2] at c109b0e1)
                                try (have c109b0e2 := c109b0; simp only [hl5_21] at c109b0e2)
                                try (have c109b0e3 := c109b0; simp only [hl5_3] at c109b0e3)
                                clear c109
                                obtain ⟨y177, hy177⟩ : ∃ y_ : List Int, y_ = (x5_3.set ((ji107) : Int).toNat (wrap64 (-(rd x5_3 x99_3)))) := ⟨_, rfl⟩
                                replace H : (spec_l1Cur_opposite.l2 k3 (wrap64 (1 + t118)) y177 (x5_21.length : Int) (wrap64 (x99_3 + 1)) s0_0 x1001_21 x1002_21) = some (r1, r2, r3, r4) := by first | (rw [hy177]; with_reducible exact H) | (have H2_ := (Option.bind_some _ _).symm.trans H; rw [hy177]; with_reducible exact H2_) | (have H2_ := (Option.bind_some _ _).symm.trans H; with_reducible exact H2_) | with_reducible exact H | (rw [hy177]; exact H) | exact H
                                have Ny177 := Aside0.mk hy177
                                clear hy177
                                have H' := Aside0.mk H
                                clear H
                                go_wp2_with (first | ((with_reducible refine gate_callee (f := 91) rfl ?_); refine goesL_ (some 105) rfl rfl Try.func91 (by kernel_rfl) rfl #[.int .i64 (wrap64 (1 + t118)), .int .i64 x99_3] rfl (by (try simp only [List.map_toArray, List.map_cons, List.map_nil]); first | done | rfl | (simp only [List.length_drop, List.length_take]; rfl)) ?_; (with_reducible refine (spec_opAt.calls (wrap64 (1 + t118)) x99_3 t173 t174 _ A102.out).mono ?_); rintro e w' ⟨rfl, ⟨nd, rfl⟩⟩; refine ⟨_, rfl, ?_⟩; (try (rw [drewN_self wr]; generalize hq_ : World.drewN wr _ = wr; have n0_ : Aside0 (Kd.R (Kd.int .i64) 3 wr w.heap.size (fun _ => True) (.slice Ao9 x5_3.length co9) x5_3) := ⟨by rw [← hq_]; exact (by (with_reducible repeat (first | apply Kd.R_alloc | apply Kd.R_drewN | apply Kd.R_drew)); exact HO_5.out)⟩; have n1_ : Aside0 (IsS77 w0 wr g s0_0 x1001_21 x1002_21) := ⟨by rw [← hq_]; exact (by repeat (first | (with_reducible first | exact HI0.out | apply IsS77.alloc | apply IsS77.drewN | apply IsS77.drew | apply IsS77.set_1 | apply IsS77.set_2) | exact HI0.out))⟩; have n2_ : Aside0 (KeepBut w wr g none) := ⟨by rw [← hq_]; exact (by repeat (first | (with_reducible first | exact HK.out | apply KeepBut.set_ | apply keep_drewN | apply keep_drew | apply keep_alloc) | exact HK.out))⟩; have n3_ : Aside0 (Below w0.heap.size w0 wr) := ⟨by rw [← hq_]; exact (by repeat (first | (with_reducible first | exact HB.out | apply below_alloc | apply pw_below_drewN | apply below_drew1 | refine below_set ?_ (IsS77.ge HI0.out)) | exact HB.out))⟩; clear HO_5 HI0 HK HB hq_; have HO_5 := n0_; have HI0 := n1_; have HK := n2_; have HB := n3_; clear n0_ n1_ n2_ n3_))) | ((with_reducible refine gate_callee (f := 121) rfl ?_); refine goesL_ (some 109) rfl rfl Try.func121 (by kernel_rfl) rfl #[.int .i64 t173] rfl (by (try simp only [List.map_toArray, List.map_cons, List.map_nil]); first | done | rfl | (simp only [List.length_drop, List.length_take]; rfl)) ?_; (with_reducible refine (spec_l1Abs.calls t173 t175 _ A103.out).mono ?_); rintro e w' ⟨rfl, ⟨nd, rfl⟩⟩; refine ⟨_, rfl, ?_⟩; (try (rw [drewN_self wr]; generalize hq_ : World.drewN wr _ = wr; have n0_ : Aside0 (Kd.R (Kd.int .i64) 3 wr w.heap.size (fun _ => True) (.slice Ao9 x5_3.length co9) x5_3) := ⟨by rw [← hq_]; exact (by (with_reducible repeat (first | apply Kd.R_alloc | apply Kd.R_drewN | apply Kd.R_drew)); exact HO_5.out)⟩; have n1_ : Aside0 (IsS77 w0 wr g s0_0 x1001_21 x1002_21) := ⟨by rw [← hq_]; exact (by repeat (first | (with_reducible first | exact HI0.out | apply IsS77.alloc | apply IsS77.drewN | apply IsS77.drew | apply IsS77.set_1 | apply IsS77.set_2) | exact HI0.out))⟩; have n2_ : Aside0 (KeepBut w wr g none) := ⟨by rw [← hq_]; exact (by repeat (first | (with_reducible first | exact HK.out | apply KeepBut.set_ | apply keep_drewN | apply keep_drew | apply keep_alloc) | exact HK.out))⟩; have n3_ : Aside0 (Below w0.heap.size w0 wr) := ⟨by rw [← hq_]; exact (by repeat (first | (with_reducible first | exact HB.out | apply below_alloc | apply pw_below_drewN | apply below_drew1 | refine below_set ?_ (IsS77.ge HI0.out)) | exact HB.out))⟩; clear HO_5 HI0 HK HB hq_; have HO_5 := n0_; have HI0 := n1_; have HK := n2_; have HB := n3_; clear n0_ n1_ n2_ n3_)); have p176 : 0 ≤ (x99_3 : Int) := of_decide_eq_true (by first | (with_reducible assumption) | assumption); have q176 : x99_3 < (x5_3.length : Int) := of_decide_eq_true (by first | (with_reducible assumption) | assumption); obtain ⟨ad176, e176, hx176_0⟩ := Kd.at_int (Kd.R_reads' HO_5.out).2.2 x99_3 p176 q176; cases e176; replace p176 := eq_true p176; replace q176 := eq_true q176; have p110 : 0 ≤ ((ji107) : Int) := of_decide_eq_true (by first | (with_reducible assumption) | assumption); have q110 : ((ji107) : Int) < ((x5_3.length : Int) : Int) := of_decide_eq_true (by first | (with_reducible assumption) | assumption); obtain ⟨go110, co110, eo110, gb110, gl110, cl110, HG110⟩ := Kd.R_form HO_5.out (by omega); (first | cases eo110 | (injection eo110 with ea_ en_ ec_; (first | subst ea_ | (injection ea_ with ea_; subst ea_)); subst ec_; clear en_)); have GB110 := Aside0.mk gb110; have GG110 := Aside0.mk HG110; clear gb110 gl110 HG110; (first | simp only [add_plain] at hx176_0 | skip); obtain ⟨hx110_0, hf110_0⟩ := Kd.R_celln 0 HO_5.out ((ji107) : Int) p110 q110; replace p110 := eq_true p110; replace q110 := eq_true q110; obtain ⟨hy111_, hz111_⟩ := Kd.R_celln 0 HO_5.out ((ji107) : Int) (of_decide_eq_true (by first | (with_reducible assumption) | assumption)) (of_decide_eq_true (by first | (with_reducible assumption) | assumption)); have HP111 := Kd.R_putg HO_5.out ((ji107) : Int) (wrap64 (-(rd x5_3 x99_3)))) | ((with_reducible refine gate_store (t := 3) (p := 129) rfl ?_); refine store_event (t := 3) (p := 129) (v := ?vo_w112) (w1 := (wr.setCell ⟨go110, ((ji107) : Int).toNat, none⟩ (.int .i64 (wrap64 (-(rd x5_3 x99_3)))))) ?hg ?ho ?hn ?hr ?_; (case ho => rfl); (case hg => rfl); (case hn => rfl); (case hr => first | (go_simp; done) | (go_simp; rfl)); intro w112 hw; have hg : wr.grownBy w112 (some go110) := (by rw [hw]; exact HP111.2); have hp_ : Kd.R (Kd.int .i64) 3 w112 w.heap.size (fun _ => True) (.slice (some ⟨go110, 0, none⟩) x5_3.length co9) y177 := (by rw [hw, Ny177.out]; exact HP111.1); clear HP111; have n0_ := Aside0.mk (hp_); have n1_ := Aside0.mk (IsS77.grown (by repeat (first | (with_reducible first | exact HI0.out | apply IsS77.alloc | apply IsS77.drewN | apply IsS77.drew | apply IsS77.set_1 | apply IsS77.set_2) | exact HI0.out)) hg (IsS77.own_ne HI0.out HO_5.out (by decide))); have n2_ := Aside0.mk ((by rw [hw]; exact below_set (HB.out) (Nat.le_trans HL.out GB110.out) : Below w0.heap.size w0 w112)); have n3_ := Aside0.mk (KeepBut.trans (by repeat (first | (with_reducible first | exact HK.out | apply KeepBut.set_ | apply keep_drewN | apply keep_drew | apply keep_alloc) | exact HK.out)) (KeepBut.of_grown hg g) (Kd.R_base2 HO_5.out)); clear HO_5; clear HI0; clear HB; clear HK; have HO_5 := n0_; have HI0 := n1_; have HB := n2_; have HK := n3_; clear n0_ n1_ n2_ n3_; clear hg hw hp_))
                                (try simp only [← hl5_3])
                                go_roundg k3
                                case measure => have := HK1.out; have := HJ21.out; have := HK3.out; omega
                                case rel => exact ⟨(y177), (wrap64 (x99_3 + 1)), (by first | rfl | (simp; done) | (simp [*]; done)), H', ⟨by have := HK1.out; have := HJ21.out; have := HK3.out; omega⟩, ⟨by (try simp only [hl5_1]); (try simp only [hl5_21]); (try simp only [hl5_3]); (with_reducible repeat (first | apply Kd.R_alloc | apply Kd.R_drewN | apply Kd.R_drew)); exact HO_5.out⟩, ⟨by repeat (first | (with_reducible first | exact HI0.out | apply IsS77.alloc | apply IsS77.drewN | apply IsS77.drew | apply IsS77.set_1 | apply IsS77.set_2) | exact HI0.out)⟩, ⟨by repeat (first | (with_reducible first | exact HK.out | apply KeepBut.set_ | apply keep_drewN | apply keep_drew | apply keep_alloc) | exact HK.out)⟩, ⟨by repeat (first | (with_reducible first | exact HB.out | apply below_alloc | apply pw_below_drewN | apply below_drew1 | refine below_set ?_ (IsS77.ge HI0.out)) | exact HB.out)⟩⟩
                              · rw [if_neg c109] at H
                                exact absurd H (by simp)
                            · rw [if_neg c108] at H
                              exact absurd H (by simp)
                          · rw [if_neg c106] at H
                            exact absurd H (by simp)
                        · rw [if_neg c105] at H
                          exact absurd H (by simp)
                      · rw [if_neg c104] at H
                        have c104b0 : (t175 == (wrap64 (1 + t118))) = false := beq_eq_false_iff_ne.mpr c104
                        have c104b1 : (t175 != (wrap64 (1 + t118))) = true := bne_iff_ne.mpr c104
                        replace H := Option.bind_eq_some_iff.mp H
                        obtain ⟨t178, A1130, H⟩ := H
                        replace H : (if t178 = (wrap64 (1 + t118)) then (if 0 ≤ x99_3 then (if x99_3 < (x5_3.length : Int) then (if 0 ≤ (wrap64 ((wrap64 ((x5_3.length : Int) - 1)) - x99_3)) then (if (wrap64 ((wrap64 ((x5_3.length : Int) - 1)) - x99_3)) < (x5_3.length : Int) then (spec_l1Cur_opposite.l2 k3 (wrap64 (1 + t118)) (x5_3.set ((wrap64 ((wrap64 ((x5_3.length : Int) - 1)) - x99_3)) : Int).toNat (wrap64 (-(rd x5_3 x99_3)))) (x5_21.length : Int) (wrap64 (x99_3 + 1)) s0_0 x1001_21 x1002_21) else (none)) else (none)) else (none)) else (none)) else (spec_l1Cur_opposite.l2 k3 (wrap64 (1 + t118)) x5_3 (x5_21.length : Int) (wrap64 (x99_3 + 1)) s0_0 x1001_21 x1002_21)) = some (r1, r2, r3, r4) := H
                        have A113 := Aside0.mk A1130
                        clear A1130
                        by_cases c114 : t178 = (wrap64 (1 + t118))
                        · rw [if_pos c114] at H
                          have c114b0 : (t178 == (wrap64 (1 + t118))) = true := beq_iff_eq.mpr c114
                          have c114b1 : (t178 != (wrap64 (1 + t118))) = false := bne_eq_false_iff_eq.mpr c114
                          clear c114
                          by_cases c115 : 0 ≤ x99_3
                          · rw [if_pos c115] at H
                            have c115b0 : decide (0 ≤ x99_3) = true := decide_eq_true c115
                            clear c115
                            by_cases c116 : x99_3 < (x5_3.length : Int)
                            · rw [if_pos c116] at H
                              have c116b0 : decide (x99_3 < (x5_3.length : Int)) = true := decide_eq_true c116
                              try (have c116b0e0 := c116b0; simp only [hl5_1] at c116b0e0)
                              try (have c116b0e1 := c116b0; simp only [hl5_2] at c116b0e1)
                              try (have c116b0e2 := c116b0; simp only [hl5_21] at c116b0e2)
                              try (have c116b0e3 := c116b0; simp only [hl5_3] at c116b0e3)
                              clear c116
                              obtain ⟨ji117, hji117⟩ : ∃ j_ : Int, (wrap64 ((wrap64 ((x5_3.length : Int) - 1)) - x99_3)) = j_ := ⟨_, rfl⟩
                              replace H : (if 0 ≤ (ji117) then (if (ji117) < (x5_3.length : Int) then (spec_l1Cur_opposite.l2 k3 (wrap64 (1 + t118)) (x5_3.set ((ji117) : Int).toNat (wrap64 (-(rd x5_3 x99_3)))) (x5_21.length : Int) (wrap64 (x99_3 + 1)) s0_0 x1001_21 x1002_21) else (none)) else (none)) = some (r1, r2, r3, r4) := by first | (rw [hji117] at H; exact H) | (simp only [hji117] at H ⊢; exact H)
                              (try rw [hji117] at A102)
                              (try rw [hji117] at A103)
                              (try rw [hji117] at A113)
                              have hji117w : (IntKind.i64.wrap ((wrap64 ((x5_3.length : Int) - 1)) - x99_3)) = ji117 := (i64_w _).trans hji117
                              by_cases c118 : 0 ≤ (ji117)
                              · rw [if_pos c118] at H
                                have c118b0 : decide (0 ≤ (ji117)) = true := decide_eq_true c118
                                clear c118
                                by_cases c119 : (ji117) < (x5_3.length : Int)
                                · rw [if_pos c119] at H
                                  have c119b0 : decide ((ji117) < (x5_3.length : Int)) = true := decide_eq_true c119
                                  try (have c119b0e0 := c119b0; simp only [hl5_1] at c119b0e0)
                                  try (have c119b0e1 := c119b0; simp only [hl5_2] at c119b0e1)
                                  try (have c119b0e2 := c119b0; simp only [hl5_21] at c119b0e2)
                                  try (have c119b0e3 := c119b0; simp only [hl5_3] at c119b0e3)
                                  clear c119
                                  obtain ⟨y180, hy180⟩ : ∃ y_ : List Int, y_ = (x5_3.set ((ji117) : Int).toNat (wrap64 (-(rd x5_3 x99_3)))) := ⟨_, rfl⟩
                                  replace H : (spec_l1Cur_opposite.l2 k3 (wrap64 (1 + t118)) y180 (x5_21.length : Int) (wrap64 (x99_3 + 1)) s0_0 x1001_21 x1002_21) = some (r1, r2, r3, r4) := by first | (rw [hy180]; with_reducible exact H) | (have H2_ := (Option.bind_some _ _).symm.trans H; rw [hy180]; with_reducible exact H2_) | (have H2_ := (Option.bind_some _ _).symm.trans H; with_reducible exact H2_) | with_reducible exact H | (rw [hy180]; exact H) | exact H
                                  have Ny180 := Aside0.mk hy180
                                  clear hy180
                                  have H' := Aside0.mk H
                                  clear H
                                  go_wp2_with (first | ((with_reducible refine gate_callee (f := 91) rfl ?_); refine goesL_ (some 105) rfl rfl Try.func91 (by kernel_rfl) rfl #[.int .i64 (wrap64 (1 + t118)), .int .i64 x99_3] rfl (by (try simp only [List.map_toArray, List.map_cons, List.map_nil]); first | done | rfl | (simp only [List.length_drop, List.length_take]; rfl)) ?_; (with_reducible refine (spec_opAt.calls (wrap64 (1 + t118)) x99_3 t173 t174 _ A102.out).mono ?_); rintro e w' ⟨rfl, ⟨nd, rfl⟩⟩; refine ⟨_, rfl, ?_⟩; (try (rw [drewN_self wr]; generalize hq_ : World.drewN wr _ = wr; have n0_ : Aside0 (Kd.R (Kd.int .i64) 3 wr w.heap.size (fun _ => True) (.slice Ao9 x5_3.length co9) x5_3) := ⟨by rw [← hq_]; exact (by (with_reducible repeat (first | apply Kd.R_alloc | apply Kd.R_drewN | apply Kd.R_drew)); exact HO_5.out)⟩; have n1_ : Aside0 (IsS77 w0 wr g s0_0 x1001_21 x1002_21) := ⟨by rw [← hq_]; exact (by repeat (first | (with_reducible first | exact HI0.out | apply IsS77.alloc | apply IsS77.drewN | apply IsS77.drew | apply IsS77.set_1 | apply IsS77.set_2) | exact HI0.out))⟩; have n2_ : Aside0 (KeepBut w wr g none) := ⟨by rw [← hq_]; exact (by repeat (first | (with_reducible first | exact HK.out | apply KeepBut.set_ | apply keep_drewN | apply keep_drew | apply keep_alloc) | exact HK.out))⟩; have n3_ : Aside0 (Below w0.heap.size w0 wr) := ⟨by rw [← hq_]; exact (by repeat (first | (with_reducible first | exact HB.out | apply below_alloc | apply pw_below_drewN | apply below_drew1 | refine below_set ?_ (IsS77.ge HI0.out)) | exact HB.out))⟩; clear HO_5 HI0 HK HB hq_; have HO_5 := n0_; have HI0 := n1_; have HK := n2_; have HB := n3_; clear n0_ n1_ n2_ n3_))) | ((with_reducible refine gate_callee (f := 121) rfl ?_); refine goesL_ (some 109) rfl rfl Try.func121 (by kernel_rfl) rfl #[.int .i64 t173] rfl (by (try simp only [List.map_toArray, List.map_cons, List.map_nil]); first | done | rfl | (simp only [List.length_drop, List.length_take]; rfl)) ?_; (with_reducible refine (spec_l1Abs.calls t173 t175 _ A103.out).mono ?_); rintro e w' ⟨rfl, ⟨nd, rfl⟩⟩; refine ⟨_, rfl, ?_⟩; (try (rw [drewN_self wr]; generalize hq_ : World.drewN wr _ = wr; have n0_ : Aside0 (Kd.R (Kd.int .i64) 3 wr w.heap.size (fun _ => True) (.slice Ao9 x5_3.length co9) x5_3) := ⟨by rw [← hq_]; exact (by (with_reducible repeat (first | apply Kd.R_alloc | apply Kd.R_drewN | apply Kd.R_drew)); exact HO_5.out)⟩; have n1_ : Aside0 (IsS77 w0 wr g s0_0 x1001_21 x1002_21) := ⟨by rw [← hq_]; exact (by repeat (first | (with_reducible first | exact HI0.out | apply IsS77.alloc | apply IsS77.drewN | apply IsS77.drew | apply IsS77.set_1 | apply IsS77.set_2) | exact HI0.out))⟩; have n2_ : Aside0 (KeepBut w wr g none) := ⟨by rw [← hq_]; exact (by repeat (first | (with_reducible first | exact HK.out | apply KeepBut.set_ | apply keep_drewN | apply keep_drew | apply keep_alloc) | exact HK.out))⟩; have n3_ : Aside0 (Below w0.heap.size w0 wr) := ⟨by rw [← hq_]; exact (by repeat (first | (with_reducible first | exact HB.out | apply below_alloc | apply pw_below_drewN | apply below_drew1 | refine below_set ?_ (IsS77.ge HI0.out)) | exact HB.out))⟩; clear HO_5 HI0 HK HB hq_; have HO_5 := n0_; have HI0 := n1_; have HK := n2_; have HB := n3_; clear n0_ n1_ n2_ n3_))) | (go_at_call 121; (with_reducible refine (spec_l1Abs.calls t174 t178 _ A113.out).mono ?_); rintro e w' ⟨rfl, ⟨nd, rfl⟩⟩; (try (rw [drewN_self wr]; generalize hq_ : World.drewN wr _ = wr; have n0_ : Aside0 (Kd.R (Kd.int .i64) 3 wr w.heap.size (fun _ => True) (.slice Ao9 x5_3.length co9) x5_3) := ⟨by rw [← hq_]; exact (by (with_reducible repeat (first | apply Kd.R_alloc | apply Kd.R_drewN | apply Kd.R_drew)); exact HO_5.out)⟩; have n1_ : Aside0 (IsS77 w0 wr g s0_0 x1001_21 x1002_21) := ⟨by rw [← hq_]; exact (by repeat (first | (with_reducible first | exact HI0.out | apply IsS77.alloc | apply IsS77.drewN | apply IsS77.drew | apply IsS77.set_1 | apply IsS77.set_2) | exact HI0.out))⟩; have n2_ : Aside0 (KeepBut w wr g none) := ⟨by rw [← hq_]; exact (by repeat (first | (with_reducible first | exact HK.out | apply KeepBut.set_ | apply keep_drewN | apply keep_drew | apply keep_alloc) | exact HK.out))⟩; have n3_ : Aside0 (Below w0.heap.size w0 wr) := ⟨by rw [← hq_]; exact (by repeat (first | (with_reducible first | exact HB.out | apply below_alloc | apply pw_below_drewN | apply below_drew1 | refine below_set ?_ (IsS77.ge HI0.out)) | exact HB.out))⟩; clear HO_5 HI0 HK HB hq_; have HO_5 := n0_; have HI0 := n1_; have HK := n2_; have HB := n3_; clear n0_ n1_ n2_ n3_)); have p179 : 0 ≤ (x99_3 : Int) := of_decide_eq_true (by first | (with_reducible assumption) | assumption); have q179 : x99_3 < (x5_3.length : Int) := of_decide_eq_true (by first | (with_reducible assumption) | assumption); obtain ⟨ad179, e179, hx179_0⟩ := Kd.at_int (Kd.R_reads' HO_5.out).2.2 x99_3 p179 q179; cases e179; replace p179 := eq_true p179; replace q179 := eq_true q179; have p120 : 0 ≤ ((ji117) : Int) := of_decide_eq_true (by first | (with_reducible assumption) | assumption); have q120 : ((ji117) : Int) < ((x5_3.length : Int) : Int) := of_decide_eq_true (by first | (with_reducible assumption) | assumption); obtain ⟨go120, co120, eo120, gb120, gl120, cl120, HG120⟩ := Kd.R_form HO_5.out (by omega); (first | cases eo120 | (injection eo120 with ea_ en_ ec_; (first | subst ea_ | (injection ea_ with ea_; subst ea_)); subst ec_; clear en_)); have GB120 := Aside0.mk gb120; have GG120 := Aside0.mk HG120; clear gb120 gl120 HG120; (first | simp only [add_plain] at hx179_0 | skip); obtain ⟨hx120_0, hf120_0⟩ := Kd.R_celln 0 HO_5.out ((ji117) : Int) p120 q120; replace p120 := eq_true p120; replace q120 := eq_true q120; obtain ⟨hy121_, hz121_⟩ := Kd.R_celln 0 HO_5.out ((ji117) : Int) (of_decide_eq_true (by first | (with_reducible assumption) | assumption)) (of_decide_eq_true (by first | (with_reducible assumption) | assumption)); have HP121 := Kd.R_putg HO_5.out ((ji117) : Int) (wrap64 (-(rd x5_3 x99_3)))) | ((with_reducible refine gate_store (t := 3) (p := 129) rfl ?_); refine store_event (t := 3) (p := 129) (v := ?vo_w122) (w1 := (wr.setCell ⟨go120, ((ji117) : Int).toNat, none⟩ (.int .i64 (wrap64 (-(rd x5_3 x99_3)))))) ?hg ?ho ?hn ?hr ?_; (case ho => rfl); (case hg => rfl); (case hn => rfl); (case hr => first | (go_simp; done) | (go_simp; rfl)); intro w122 hw; have hg : wr.grownBy w122 (some go120) := (by rw [hw]; exact HP121.2); have hp_ : Kd.R (Kd.int .i64) 3 w122 w.heap.size (fun _ => True) (.slice (some ⟨go120, 0, none⟩) x5_3.length co9) y180 := (by rw [hw, Ny180.out]; exact HP121.1); clear HP121; have n0_ := Aside0.mk (hp_); have n1_ := Aside0.mk (IsS77.grown (by repeat (first | (with_reducible first | exact HI0.out | apply IsS77.alloc | apply IsS77.drewN | apply IsS77.drew | apply IsS77.set_1 | apply IsS77.set_2) | exact HI0.out)) hg (IsS77.own_ne HI0.out HO_5.out (by decide))); have n2_ := Aside0.mk ((by rw [hw]; exact below_set (HB.out) (Nat.le_trans HL.out GB120.out) : Below w0.heap.size w0 w122)); have n3_ := Aside0.mk (KeepBut.trans (by repeat (first | (with_reducible first | exact HK.out | apply KeepBut.set_ | apply keep_drewN | apply keep_drew | apply keep_alloc) | exact HK.out)) (KeepBut.of_grown hg g) (Kd.R_base2 HO_5.out)); clear HO_5; clear HI0; clear HB; clear HK; have HO_5 := n0_; have HI0 := n1_; have HB := n2_; have HK := n3_; clear n0_ n1_ n2_ n3_; clear hg hw hp_))
                                  (try simp only [← hl5_3])
                                  go_roundg k3
                                  case measure => have := HK1.out; have := HJ21.out; have := HK3.out; omega
                                  case rel => exact ⟨(y180), (wrap64 (x99_3 + 1)), (by first | rfl | (simp; done) | (simp [*]; done)), H', ⟨by have := HK1.out; have := HJ21.out; have := HK3.out; omega⟩, ⟨by (try simp only [hl5_1]); (try simp only [hl5_21]); (try simp only [hl5_3]); (with_reducible repeat (first | apply Kd.R_alloc | apply Kd.R_drewN | apply Kd.R_drew)); exact HO_5.out⟩, ⟨by repeat (first | (with_reducible first | exact HI0.out | apply IsS77.alloc | apply IsS77.drewN | apply IsS77.drew | apply IsS77.set_1 | apply IsS77.set_2) | exact HI0.out)⟩, ⟨by repeat (first | (with_reducible first | exact HK.out | apply KeepBut.set_ | apply keep_drewN | apply keep_drew | apply keep_alloc) | exact HK.out)⟩, ⟨by repeat (first | (with_reducible first | exact HB.out | apply below_alloc | apply pw_below_drewN | apply below_drew1 | refine below_set ?_ (IsS77.ge HI0.out)) | exact HB.out)⟩⟩
                                · rw [if_neg c119] at H
                                  exact absurd H (by simp)
                              · rw [if_neg c118] at H
                                exact absurd H (by simp)
                            · rw [if_neg c116] at H
                              exact absurd H (by simp)
                          · rw [if_neg c115] at H
                            exact absurd H (by simp)
                        · rw [if_neg c114] at H
                          have c114b0 : (t178 == (wrap64 (1 + t118))) = false := beq_eq_false_iff_ne.mpr c114
                          have c114b1 : (t178 != (wrap64 (1 + t118))) = true := bne_iff_ne.mpr c114
                          have H' := Aside0.mk H
                          clear H
                          go_wp2_with (first | ((with_reducible refine gate_callee (f := 91) rfl ?_); refine goesL_ (some 105) rfl rfl Try.func91 (by kernel_rfl) rfl #[.int .i64 (wrap64 (1 + t118)), .int .i64 x99_3] rfl (by (try simp only [List.map_toArray, List.map_cons, List.map_nil]); first | done | rfl | (simp only [List.length_drop, List.length_take]; rfl)) ?_; (with_reducible refine (spec_opAt.calls (wrap64 (1 + t118)) x99_3 t173 t174 _ A102.out).mono ?_); rintro e w' ⟨rfl, ⟨nd, rfl⟩⟩; refine ⟨_, rfl, ?_⟩) | ((with_reducible refine gate_callee (f := 121) rfl ?_); refine goesL_ (some 109) rfl rfl Try.func121 (by kernel_rfl) rfl #[.int .i64 t173] rfl (by (try simp only [List.map_toArray, List.map_cons, List.map_nil]); first | done | rfl | (simp only [List.length_drop, List.length_take]; rfl)) ?_; (with_reducible refine (spec_l1Abs.calls t173 t175 _ A103.out).mono ?_); rintro e w' ⟨rfl, ⟨nd, rfl⟩⟩; refine ⟨_, rfl, ?_⟩) | (go_at_call 121; (with_reducible refine (spec_l1Abs.calls t174 t178 _ A113.out).mono ?_); rintro e w' ⟨rfl, ⟨nd, rfl⟩⟩))
                          (try simp only [← hl5_3])
                          go_roundg k3
                          case measure => have := HK1.out; have := HJ21.out; have := HK3.out; omega
                          case rel => exact ⟨(x5_3), (wrap64 (x99_3 + 1)), (by first | rfl | (simp; done) | (simp [*]; done)), H', ⟨by have := HK1.out; have := HJ21.out; have := HK3.out; omega⟩, ⟨by (try simp only [hl5_1]); (try simp only [hl5_21]); (try simp only [hl5_3]); (with_reducible repeat (first | apply Kd.R_alloc | apply Kd.R_drewN | apply Kd.R_drew)); exact HO_5.out⟩, ⟨by repeat (first | (with_reducible first | exact HI0.out | apply IsS77.alloc | apply IsS77.drewN | apply IsS77.drew | apply IsS77.set_1 | apply IsS77.set_2) | exact HI0.out)⟩, ⟨by repeat (first | (with_reducible first | exact HK.out | apply KeepBut.set_ | apply keep_drewN | apply keep_drew | apply keep_alloc) | exact HK.out)⟩, ⟨by repeat (first | (with_reducible first | exact HB.out | apply below_alloc | apply pw_below_drewN | apply below_drew1 | refine below_set ?_ (IsS77.ge HI0.out)) | exact HB.out)⟩⟩
                    · rw [if_neg c101] at H
                      have c101b0 : decide (x99_3 < (x5_21.length : Int)) = false := decide_eq_false c101
                      try (have c101b0e0 := c101b0; simp only [hl5_1] at c101b0e0)
                      try (have c101b0e1 := c101b0; simp only [hl5_2] at c101b0e1)
                      try (have c101b0e2 := c101b0; simp only [hl5_21] at c101b0e2)
                      try (have c101b0e3 := c101b0; simp only [hl5_3] at c101b0e3)
                      clear c101
                      replace H := Option.bind_eq_some_iff.mp H
                      obtain ⟨⟨t181, t182, t183⟩, A1230, H⟩ := H
                      replace H : (if t181 = 0 then ((spec_l1Cur_pick.f s0_0 t182 t183 (x5_3.length : Int)).bind fun bt184 => ((spec_l1Cur_among.f s0_0 bt184.2.1 bt184.2.2 (([0, 3, (-3), 1, 4611686018427387904] : List Int))).bind fun bt190 => (if 0 ≤ bt184.1 then (if bt184.1 < (x5_3.length : Int) then (some ((wrap64 (1 + t118)), (x5_3.set (bt184.1 : Int).toNat bt190.1), bt190.2.1, bt190.2.2)) else (none)) else (none)))) else (if t181 = 1 then ((spec_l1Cur_among.f s0_0 t182 t183 (([0, 3, 4, 5] : List Int))).bind fun bt197 => (some (bt197.1, x5_3, bt197.2.1, bt197.2.2))) else (some ((wrap64 (1 + t118)), x5_3, t182, t183)))) = some (r1, r2, r3, r4) := H
                      have A123 := Aside0.mk A1230
                      clear A1230
                      by_cases c124 : t181 = 0
                      · rw [if_pos c124] at H
                        have c124b0 : (t181 == 0) = true := beq_iff_eq.mpr c124
                        have c124b1 : (t181 != 0) = false := bne_eq_false_iff_eq.mpr c124
                        clear c124
                        replace H := Option.bind_eq_some_iff.mp H
                        obtain ⟨⟨t184, t185, t186⟩, A1250, H⟩ := H
                        replace H : ((spec_l1Cur_among.f s0_0 t185 t186 (([0, 3, (-3), 1, 4611686018427387904] : List Int))).bind fun bt190 => (if 0 ≤ t184 then (if t184 < (x5_3.length : Int) then (some ((wrap64 (1 + t118)), (x5_3.set (t184 : Int).toNat bt190.1), bt190.2.1, bt190.2.2)) else (none)) else (none))) = some (r1, r2, r3, r4) := H
                        have A125 := Aside0.mk A1250
                        clear A1250
                        obtain ⟨y187, hy187⟩ : ∃ y_ : List Int, y_ = (([0, 3, (-3), 1, 4611686018427387904] : List Int)) := ⟨_, rfl⟩
                        replace H : ((spec_l1Cur_among.f s0_0 t185 t186 y187).bind fun bt190 => (if 0 ≤ t184 then (if t184 < (x5_3.length : Int) then (some ((wrap64 (1 + t118)), (x5_3.set (t184 : Int).toNat bt190.1), bt190.2.1, bt190.2.2)) else (none)) else (none))) = some (r1, r2, r3, r4) := by first | (rw [hy187]; with_reducible exact H) | (have H2_ := (Option.bind_some _ _).symm.trans H; rw [hy187]; with_reducible exact H2_) | (have H2_ := (Option.bind_some _ _).symm.trans H; with_reducible exact H2_) | with_reducible exact H | (rw [hy187]; exact H) | exact H
                        have Ny187 := Aside0.mk hy187
                        clear hy187
                        replace H := Option.bind_eq_some_iff.mp H
                        obtain ⟨⟨t190, t191, t192⟩, A1260, H⟩ := H
                        replace H : (if 0 ≤ t184 then (if t184 < (x5_3.length : Int) then (some ((wrap64 (1 + t118)), (x5_3.set (t184 : Int).toNat t190), t191, t192)) else (none)) else (none)) = some (r1, r2, r3, r4) := H
                        have A126 := Aside0.mk A1260
                        clear A1260
                        by_cases c127 : 0 ≤ t184
                        · rw [if_pos c127] at H
                          have c127b0 : decide (0 ≤ t184) = true := decide_eq_true c127
                          clear c127
                          by_cases c128 : t184 < (x5_3.length : Int)
                          · rw [if_pos c128] at H
                            have c128b0 : decide (t184 < (x5_3.length : Int)) = true := decide_eq_true c128
                            try (have c128b0e0 := c128b0; simp only [hl5_1] at c128b0e0)
                            try (have c128b0e1 := c128b0; simp only [hl5_2] at c128b0e1)
                            try (have c128b0e2 := c128b0; simp only [hl5_21] at c128b0e2)
                            try (have c128b0e3 := c128b0; simp only [hl5_3] at c128b0e3)
                            clear c128
                            obtain ⟨y193, hy193⟩ : ∃ y_ : List Int, y_ = (x5_3.set (t184 : Int).toNat t190) := ⟨_, rfl⟩
                            replace H : (some ((wrap64 (1 + t118)), y193, t191, t192)) = some (r1, r2, r3, r4) := by first | (rw [hy193]; with_reducible exact H) | (have H2_ := (Option.bind_some _ _).symm.trans H; rw [hy193]; with_reducible exact H2_) | (have H2_ := (Option.bind_some _ _).symm.trans H; with_reducible exact H2_) | with_reducible exact H | (rw [hy193]; exact H) | exact H
                            have Ny193 := Aside0.mk hy193
                            clear hy193
                            simp only [Option.some.injEq, Prod.mk.injEq] at H
                            obtain ⟨rfl, rfl, rfl, rfl⟩ := H
                            go_wp2_with (first | ((with_reducible refine gate_callee (f := 87) rfl ?_); refine goesL_ (some 132) rfl rfl Try.func87 (by kernel_rfl) rfl #[.pointer (some ⟨g, 0, none⟩), .int .i64 12] rfl (by (try simp only [List.map_toArray, List.map_cons, List.map_nil]); first | done | rfl | (simp only [List.length_drop, List.length_take]; rfl)) ?_; (with_reducible refine (spec_l1Cur_pick.calls g s0_0 x1001_21 x1002_21 12 t181 t182 t183 w0 _ ?side1 ?side2 A123.out).mono ?_); (case side1 => repeat (first | (with_reducible first | exact HI0.out | apply IsS77.alloc | apply IsS77.drewN | apply IsS77.drew | apply IsS77.set_1 | apply IsS77.set_2) | exact HI0.out)); (case side2 => repeat (first | (with_reducible first | exact HB.out | apply below_alloc | apply pw_below_drewN | apply below_drew1 | refine below_set ?_ (IsS77.ge HI0.out)) | exact HB.out)); rintro e w130 ⟨rfl, hi, hb, hk⟩; refine ⟨_, rfl, ?_⟩; have n0_ := Aside0.mk (Kd.R_mono (Kd.R_keep (IsS77.apart (show IsS77 w0 _ g s0_0 x1001_21 x1002_21 from by repeat (first | (with_reducible first | exact HI0.out | apply IsS77.alloc | apply IsS77.drewN | apply IsS77.drew | apply IsS77.set_1 | apply IsS77.set_2) | exact HI0.out)) (by (with_reducible repeat (first | apply Kd.R_alloc | apply Kd.R_drewN | apply Kd.R_drew)); exact HO_5.out) (by decide)) hk (fun _ h => h.2)) (fun _ h => h.1)); have n1_ := Aside0.mk (KeepBut.trans (by repeat (first | (with_reducible first | exact HK.out | apply KeepBut.set_ | apply keep_drewN | apply keep_drew | apply keep_alloc) | exact HK.out)) hk (.inl rfl)); have n2_ := Aside0.mk (hb); have n3_ := Aside0.mk (hi); clear HO_5; clear HK; clear HB; clear HI0; have HO_5 := n0_; have HK := n1_; have HB := n2_; have HI0 := n3_; clear n0_ n1_ n2_ n3_; (try clear hb); (try clear hb2); (try clear hk); (try clear hi)) | ((with_reducible refine gate_callee (f := 87) rfl ?_); refine goesL_ (some 139) rfl rfl Try.func87 (by kernel_rfl) rfl #[.pointer (some ⟨g, 0, none⟩), .int .i64 (x5_3.length : Int)] rfl (by (try simp only [List.map_toArray, List.map_cons, List.map_nil]); first | done | rfl | (simp only [List.length_drop, List.length_take]; rfl)) ?_; (with_reducible refine (spec_l1Cur_pick.calls g s0_0 t182 t183 (x5_3.length : Int) t184 t185 t186 w0 _ ?side1 ?side2 A125.out).mono ?_); (case side1 => repeat (first | (with_reducible first | exact HI0.out | apply IsS77.alloc | apply IsS77.drewN | apply IsS77.drew | apply IsS77.set_1 | apply IsS77.set_2) | exact HI0.out)); (case side2 => repeat (first | (with_reducible first | exact HB.out | apply below_alloc | apply pw_below_drewN | apply below_drew1 | refine below_set ?_ (IsS77.ge HI0.out)) | exact HB.out)); rintro e w131 ⟨rfl, hi, hb, hk⟩; refine ⟨_, rfl, ?_⟩; have n0_ := Aside0.mk (Kd.R_mono (Kd.R_keep (IsS77.apart (show IsS77 w0 _ g s0_0 t182 t183 from by repeat (first | (with_reducible first | exact HI0.out | apply IsS77.alloc | apply IsS77.drewN | apply IsS77.drew | apply IsS77.set_1 | apply IsS77.set_2) | exact HI0.out)) (by (with_reducible repeat (first | apply Kd.R_alloc | apply Kd.R_drewN | apply Kd.R_drew)); exact HO_5.out) (by decide)) hk (fun _ h => h.2)) (fun _ h => h.1)); have n1_ := Aside0.mk (KeepBut.trans (by repeat (first | (with_reducible first | exact HK.out | apply KeepBut.set_ | apply keep_drewN | apply keep_drew | apply keep_alloc) | exact HK.out)) hk (.inl rfl)); have n2_ := Aside0.mk (hb); have n3_ := Aside0.mk (hi); clear HO_5; clear HK; clear HB; clear HI0; have HO_5 := n0_; have HK := n1_; have HB := n2_; have HI0 := n3_; clear n0_ n1_ n2_ n3_; (try clear hb); (try clear hb2); (try clear hk); (try clear hi)) | ((with_reducible refine gate_dst (N := 141) rfl ?_); refine Kd.R_lit (Kd.int .i64) _ 3 ?hg (N := 141) ?hd (xs := ([0, 3, (-3), 1, 4611686018427387904] : List Int)) (inner := [.int .i64 0, .int .i64 3, .int .i64 (-3), .int .i64 1, .int .i64 4611686018427387904]) (ok := fun _ => True) (okp := fun _ => True) ?hr ?hp (fun _ hk => hk) trivial (Below.refl _ _) (Nat.le_refl _) (by simp) ?_; (case hd => rfl); (case hg => rfl); (case hr => first | (go_simp; done) | (go_simp; rfl)); (case hp => exact (Reps.one (show Kd.M (Kd.int .i64) _ _ _ 0 [.int .i64 0] from rfl) (Reps.one (show Kd.M (Kd.int .i64) _ _ _ 3 [.int .i64 3] from rfl) (Reps.one (show Kd.M (Kd.int .i64) _ _ _ (-3) [.int .i64 (-3)] from rfl) (Reps.one (show Kd.M (Kd.int .i64) _ _ _ 1 [.int .i64 1] from rfl) (Reps.one (show Kd.M (Kd.int .i64) _ _ _ 4611686018427387904 [.int .i64 4611686018427387904] from rfl) (Reps.none _ _))))))); intro v188 w132 ho133 hb hg_ hnew_; clear hg_ hnew_; (first | rw [← Ny187.out] at ho133 | (simp only [Int.reduceToNat] at ho133; rw [← Ny187.out] at ho133)); have n0_ := Aside0.mk (Kd.R_elder' (by (with_reducible repeat (first | apply Kd.R_alloc | apply Kd.R_drewN | apply Kd.R_drew)); exact HO_5.out) (Kd.R_base ho133) hb); have n1_ := Aside0.mk (Kd.R_lower (Kd.R_new' ho133 (Kd.R_lt (by (with_reducible repeat (first | apply Kd.R_alloc | apply Kd.R_drewN | apply Kd.R_drew)); exact HO_5.out))) (keep_size (w := w) (g := g) (row := none) (by repeat (first | (with_reducible first | exact HK.out | apply KeepBut.set_ | apply keep_drewN | apply keep_drew | apply keep_alloc) | exact HK.out)))); have n2_ := Aside0.mk (IsS77.below (by repeat (first | (with_reducible first | exact HI0.out | apply IsS77.alloc | apply IsS77.drewN | apply IsS77.drew | apply IsS77.set_1 | apply IsS77.set_2) | exact HI0.out)) hb); have n3_ := Aside0.mk (KeepBut.trans (by repeat (first | (with_reducible first | exact HK.out | apply KeepBut.set_ | apply keep_drewN | apply keep_drew | apply keep_alloc) | exact HK.out)) (KeepBut.of_below hb g none) (.inl rfl)); have n4_ := Aside0.mk (below_step (by repeat (first | (with_reducible first | exact HB.out | apply below_alloc | apply pw_below_drewN | apply below_drew1 | refine below_set ?_ (IsS77.ge HI0.out)) | exact HB.out)) hb); clear HO_5; clear HI0; clear HK; clear HB; have HO_5 := n0_; have HO189 := n1_; have HI0 := n2_; have HK := n3_; have HB := n4_; clear n0_ n1_ n2_ n3_ n4_; clear hb ho133; obtain ⟨Ao134, co134, eo134⟩ := Kd.R_slice HO189.out; subst eo134) | ((with_reducible refine gate_callee (f := 119) rfl ?_); refine goesL_ (some 142) rfl rfl Try.func119 (by kernel_rfl) rfl #[.pointer (some ⟨g, 0, none⟩), .slice Ao134 y187.length co134] rfl (by (try simp only [List.map_toArray, List.map_cons, List.map_nil]); first | done | rfl | (simp only [List.length_drop, List.length_take]; rfl)) ?_; (with_reducible refine (spec_l1Cur_among.calls g s0_0 t185 t186 _ _ y187 t190 t191 t192 w0 _ ?side1 ?side2 ?side3 ?side4 ?side5 A126.out).mono ?_); (case side1 => repeat (first | (with_reducible first | exact HI0.out | apply IsS77.alloc | apply IsS77.drewN | apply IsS77.drew | apply IsS77.set_1 | apply IsS77.set_2) | exact HI0.out)); (case side2 => repeat (first | (with_reducible first | exact HB.out | apply below_alloc | apply pw_below_drewN | apply below_drew1 | refine below_set ?_ (IsS77.ge HI0.out)) | exact HB.out)); (case side3 => repeat (first | exact (Kd.R_reads' HO189.out).2.2 | (with_reducible refine Kd.C_alloc ?_ _) | (with_reducible refine Kd.C_drewN ?_ _) | (with_reducible refine Kd.C_drew ?_))); (case side4 => exact (Kd.R_reads' HO189.out).2.1); (case side5 => exact far_slice (IsS77.own_ne HI0.out HO189.out (by decide))); rintro e w135 ⟨rfl, hi, hb, hk⟩; refine ⟨_, rfl, ?_⟩; have n0_ := Aside0.mk (Kd.R_mono (Kd.R_keep (IsS77.apart (show IsS77 w0 _ g s0_0 t185 t186 from by repeat (first | (with_reducible first | exact HI0.out | apply IsS77.alloc | apply IsS77.drewN | apply IsS77.drew | apply IsS77.set_1 | apply IsS77.set_2) | exact HI0.out)) (by (with_reducible repeat (first | apply Kd.R_alloc | apply Kd.R_drewN | apply Kd.R_drew)); exact HO_5.out) (by decide)) hk (fun _ h => h.2)) (fun _ h => h.1)); have n1_ := Aside0.mk (Kd.R_mono (Kd.R_keep (IsS77.apart (show IsS77 w0 _ g s0_0 t185 t186 from by repeat (first | (with_reducible first | exact HI0.out | apply IsS77.alloc | apply IsS77.drewN | apply IsS77.drew | apply IsS77.set_1 | apply IsS77.set_2) | exact HI0.out)) (by (with_reducible repeat (first | apply Kd.R_alloc | apply Kd.R_drewN | apply Kd.R_drew)); exact HO189.out) (by decide)) hk (fun _ h => h.2)) (fun _ h => h.1)); have n2_ := Aside0.mk (KeepBut.trans (by repeat (first | (with_reducible first | exact HK.out | apply KeepBut.set_ | apply keep_drewN | apply keep_drew | apply keep_alloc) | exact HK.out)) hk (.inl rfl)); have n3_ := Aside0.mk (hb); have n4_ := Aside0.mk (hi); clear HO_5; clear HO189; clear HK; clear HB; clear HI0; have HO_5 := n0_; have HO189 := n1_; have HK := n2_; have HB := n3_; have HI0 := n4_; clear n0_ n1_ n2_ n3_ n4_; (try clear hb); (try clear hb2); (try clear hk); (try clear hi); have p129 : 0 ≤ (t184 : Int) := of_decide_eq_true (by first | (with_reducible assumption) | assumption); have q129 : (t184 : Int) < ((x5_3.length : Int) : Int) := of_decide_eq_true (by first | (with_reducible assumption) | assumption); obtain ⟨go129, co129, eo129, gb129, gl129, cl129, HG129⟩ := Kd.R_form HO_5.out (by omega); (first | cases eo129 | (injection eo129 with ea_ en_ ec_; (first | subst ea_ | (injection ea_ with ea_; subst ea_)); subst ec_; clear en_)); have GB129 := Aside0.mk gb129; have GG129 := Aside0.mk HG129; clear gb129 gl129 HG129; obtain ⟨hx129_0, hf129_0⟩ := Kd.R_celln 0 HO_5.out (t184 : Int) p129 q129; replace p129 := eq_true p129; replace q129 := eq_true q129; have n_ := Aside0.mk (Kd.R_mono (ok' := (fun k_ => some k_ ≠ (.slice Ao134 y187.length co134 : Value).ownBlock)) HO_5.out (fun k_ hk => hk.2)); clear HO_5; have HO_5 := n_; clear n_; obtain ⟨hy136_, hz136_⟩ := Kd.R_celln 0 HO_5.out (t184 : Int) (of_decide_eq_true (by first | (with_reducible assumption) | assumption)) (of_decide_eq_true (by first | (with_reducible assumption) | assumption)); have HP136 := Kd.R_putg HO_5.out (t184 : Int) t190) | ((with_reducible refine gate_store (t := 3) (p := 143) rfl ?_); refine store_event (t := 3) (p := 143) (v := ?vo_w137) (w1 := (w135.setCell ⟨go129, (t184 : Int).toNat, none⟩ (.int .i64 t190))) ?hg ?ho ?hn ?hr ?_; (case ho => rfl); (case hg => rfl); (case hn => rfl); (case hr => first | (go_simp; done) | (go_simp; rfl)); intro w137 hw; have hg : w135.grownBy w137 (some go129) := (by rw [hw]; exact HP136.2); have hp_ : Kd.R (Kd.int .i64) 3 w137 w.heap.size (fun k_ => some k_ ≠ (.slice Ao134 y187.length co134 : Value).ownBlock) (.slice (some ⟨go129, 0, none⟩) x5_3.length co9) y193 := (by rw [hw, Ny193.out]; exact HP136.1); clear HP136; have n0_ := Aside0.mk (hp_); have n1_ := Aside0.mk (IsS77.grown (by repeat (first | (with_reducible first | exact HI0.out | apply IsS77.alloc | apply IsS77.drewN | apply IsS77.drew | apply IsS77.set_1 | apply IsS77.set_2) | exact HI0.out)) hg (IsS77.own_ne HI0.out HO_5.out (by decide))); have n2_ := Aside0.mk (Kd.R_after (v := (.slice (some ⟨go129, 0, none⟩) x5_3.length co9)) (v1 := (.slice (some ⟨go129, 0, none⟩) x5_3.length co9)) (ok := (fun _ => True)) (by (with_reducible repeat (first | apply Kd.R_alloc | apply Kd.R_drewN | apply Kd.R_drew)); exact HO189.out) hg (.inl rfl)); have n3_ := Aside0.mk ((by rw [hw]; exact below_set (HB.out) (Nat.le_trans HL.out GB129.out) : Below w0.heap.size w0 w137)); have n4_ := Aside0.mk (KeepBut.trans (by repeat (first | (with_reducible first | exact HK.out | apply KeepBut.set_ | apply keep_drewN | apply keep_drew | apply keep_alloc) | exact HK.out)) (KeepBut.of_grown hg g) (Kd.R_base2 HO_5.out)); clear HO_5; clear HI0; clear HO189; clear HB; clear HK; have HO_5 := n0_; have HI0 := n1_; have HO189 := n2_; have HB := n3_; have HK := n4_; clear n0_ n1_ n2_ n3_ n4_; clear hg hw hp_))
                            go_ret2
                            exact ⟨_, by first | rfl | (simp [errW_none, errW_some] <;> rfl) | (simp [*, errW_none, errW_some] <;> rfl), by (with_reducible repeat (first | apply Kd.R_alloc | apply Kd.R_drewN | apply Kd.R_drew)); exact Kd.R_mono HO_5.out (fun _ hk => trivial), by repeat (first | (with_reducible first | exact HI0.out | apply IsS77.alloc | apply IsS77.drewN | apply IsS77.drew | apply IsS77.set_1 | apply IsS77.set_2) | exact HI0.out), by repeat (first | (with_reducible first | exact HB.out | apply below_alloc | apply pw_below_drewN | apply below_drew1 | refine below_set ?_ (IsS77.ge HI0.out)) | exact HB.out), by repeat (first | (with_reducible first | exact HK.out | apply KeepBut.set_ | apply keep_drewN | apply keep_drew | apply keep_alloc) | exact HK.out)⟩
                          · rw [if_neg c128] at H
                            exact absurd H (by simp)
                        · rw [if_neg c127] at H
                          exact absurd H (by simp)
                      · rw [if_neg c124] at H
                        have c124b0 : (t181 == 0) = false := beq_eq_false_iff_ne.mpr c124
                        have c124b1 : (t181 != 0) = true := bne_iff_ne.mpr c124
                        by_cases c138 : t181 = 1
                        · rw [if_pos c138] at H
                          have c138b0 : (t181 == 1) = true := beq_iff_eq.mpr c138
                          have c138b1 : (t181 != 1) = false := bne_eq_false_iff_eq.mpr c138
                          clear c138
                          obtain ⟨y194, hy194⟩ : ∃ y_ : List Int, y_ = (([0, 3, 4, 5] : List Int)) := ⟨_, rfl⟩
                          replace H : ((spec_l1Cur_among.f s0_0 t182 t183 y194).bind fun bt197 => (some (bt197.1, x5_3, bt197.2.1, bt197.2.2))) = some (r1, r2, r3, r4) := by first | (rw [hy194]; with_reducible exact H) | (have H2_ := (Option.bind_some _ _).symm.trans H; rw [hy194]; with_reducible exact H2_) | (have H2_ := (Option.bind_some _ _).symm.trans H; with_reducible exact H2_) | with_reducible exact H | (rw [hy194]; exact H) | exact H
                          have Ny194 := Aside0.mk hy194
                          clear hy194
                          replace H := Option.bind_eq_some_iff.mp H
                          obtain ⟨⟨t197, t198, t199⟩, A1390, H⟩ := H
                          replace H : (some (t197, x5_3, t198, t199)) = some (r1, r2, r3, r4) := H
                          have A139 := Aside0.mk A1390
                          clear A1390
                          simp only [Option.some.injEq, Prod.mk.injEq] at H
                          obtain ⟨rfl, rfl, rfl, rfl⟩ := H
                          go_wp2_with (first | ((with_reducible refine gate_callee (f := 87) rfl ?_); refine goesL_ (some 132) rfl rfl Try.func87 (by kernel_rfl) rfl #[.pointer (some ⟨g, 0, none⟩), .int .i64 12] rfl (by (try simp only [List.map_toArray, List.map_cons, List.map_nil]); first | done | rfl | (simp only [List.length_drop, List.length_take]; rfl)) ?_; (with_reducible refine (spec_l1Cur_pick.calls g s0_0 x1001_21 x1002_21 12 t181 t182 t183 w0 _ ?side1 ?side2 A123.out).mono ?_); (case side1 => repeat (first | (with_reducible first | exact HI0.out | apply IsS77.alloc | apply IsS77.drewN | apply IsS77.drew | apply IsS77.set_1 | apply IsS77.set_2) | exact HI0.out)); (case side2 => repeat (first | (with_reducible first | exact HB.out | apply below_alloc | apply pw_below_drewN | apply below_drew1 | refine below_set ?_ (IsS77.ge HI0.out)) | exact HB.out)); rintro e w140 ⟨rfl, hi, hb, hk⟩; refine ⟨_, rfl, ?_⟩; have n0_ := Aside0.mk (Kd.R_mono (Kd.R_keep (IsS77.apart (show IsS77 w0 _ g s0_0 x1001_21 x1002_21 from by repeat (first | (with_reducible first | exact HI0.out | apply IsS77.alloc | apply IsS77.drewN | apply IsS77.drew | apply IsS77.set_1 | apply IsS77.set_2) | exact HI0.out)) (by (with_reducible repeat (first | apply Kd.R_alloc | apply Kd.R_drewN | apply Kd.R_drew)); exact HO_5.out) (by decide)) hk (fun _ h => h.2)) (fun _ h => h.1)); have n1_ := Aside0.mk (KeepBut.trans (by repeat (first | (with_reducible first | exact HK.out | apply KeepBut.set_ | apply keep_drewN | apply keep_drew | apply keep_alloc) | exact HK.out)) hk (.inl rfl)); have n2_ := Aside0.mk (hb); have n3_ := Aside0.mk (hi); clear HO_5; clear HK; clear HB; clear HI0; have HO_5 := n0_; have HK := n1_; have HB := n2_; have HI0 := n3_; clear n0_ n1_ n2_ n3_; (try clear hb); (try clear hb2); (try clear hk); (try clear hi)) | ((with_reducible refine gate_dst (N := 147) rfl ?_); refine Kd.R_lit (Kd.int .i64) _ 3 ?hg (N := 147) ?hd (xs := ([0, 3, 4, 5] : List Int)) (inner := [.int .i64 0, .int .i64 3, .int .i64 4, .int .i64 5]) (ok := fun _ => True) (okp := fun _ => True) ?hr ?hp (fun _ hk => hk) trivial (Below.refl _ _) (Nat.le_refl _) (by simp) ?_; (case hd => rfl); (case hg => rfl); (case hr => first | (go_simp; done) | (go_simp; rfl)); (case hp => exact (Reps.one (show Kd.M (Kd.int .i64) _ _ _ 0 [.int .i64 0] from rfl) (Reps.one (show Kd.M (Kd.int .i64) _ _ _ 3 [.int .i64 3] from rfl) (Reps.one (show Kd.M (Kd.int .i64) _ _ _ 4 [.int .i64 4] from rfl) (Reps.one (show Kd.M (Kd.int .i64) _ _ _ 5 [.int .i64 5] from rfl) (Reps.none _ _)))))); intro v195 w141 ho142 hb hg_ hnew_; clear hg_ hnew_; (first | rw [← Ny194.out] at ho142 | (simp only [Int.reduceToNat] at ho142; rw [← Ny194.out] at ho142)); have n0_ := Aside0.mk (Kd.R_elder' (by (with_reducible repeat (first | apply Kd.R_alloc | apply Kd.R_drewN | apply Kd.R_drew)); exact HO_5.out) (Kd.R_base ho142) hb); have n1_ := Aside0.mk (Kd.R_lower (Kd.R_new' ho142 (Kd.R_lt (by (with_reducible repeat (first | apply Kd.R_alloc | apply Kd.R_drewN | apply Kd.R_drew)); exact HO_5.out))) (keep_size (w := w) (g := g) (row := none) (by repeat (first | (with_reducible first | exact HK.out | apply KeepBut.set_ | apply keep_drewN | apply keep_drew | apply keep_alloc) | exact HK.out)))); have n2_ := Aside0.mk (IsS77.below (by repeat (first | (with_reducible first | exact HI0.out | apply IsS77.alloc | apply IsS77.drewN | apply IsS77.drew | apply IsS77.set_1 | apply IsS77.set_2) | exact HI0.out)) hb); have n3_ := Aside0.mk (KeepBut.trans (by repeat (first | (with_reducible first | exact HK.out | apply KeepBut.set_ | apply keep_drewN | apply keep_drew | apply keep_alloc) | exact HK.out)) (KeepBut.of_below hb g none) (.inl rfl)); have n4_ := Aside0.mk (below_step (by repeat (first | (with_reducible first | exact HB.out | apply below_alloc | apply pw_below_drewN | apply below_drew1 | refine below_set ?_ (IsS77.ge HI0.out)) | exact HB.out)) hb); clear HO_5; clear HI0; clear HK; clear HB; have HO_5 := n0_; have HO196 := n1_; have HI0 := n2_; have HK := n3_; have HB := n4_; clear n0_ n1_ n2_ n3_ n4_; clear hb ho142; obtain ⟨Ao143, co143, eo143⟩ := Kd.R_slice HO196.out; subst eo143) | ((with_reducible refine gate_callee (f := 119) rfl ?_); refine goesL_ (some 148) rfl rfl Try.func119 (by kernel_rfl) rfl #[.pointer (some ⟨g, 0, none⟩), .slice Ao143 y194.length co143] rfl (by (try simp only [List.map_toArray, List.map_cons, List.map_nil]); first | done | rfl | (simp only [List.length_drop, List.length_take]; rfl)) ?_; (with_reducible refine (spec_l1Cur_among.calls g s0_0 t182 t183 _ _ y194 t197 t198 t199 w0 _ ?side1 ?side2 ?side3 ?side4 ?side5 A139.out).mono ?_); (case side1 => repeat (first | (with_reducible first | exact HI0.out | apply IsS77.alloc | apply IsS77.drewN | apply IsS77.drew | apply IsS77.set_1 | apply IsS77.set_2) | exact HI0.out)); (case side2 => repeat (first | (with_reducible first | exact HB.out | apply below_alloc | apply pw_below_drewN | apply below_drew1 | refine below_set ?_ (IsS77.ge HI0.out)) | exact HB.out)); (case side3 => repeat (first | exact (Kd.R_reads' HO196.out).2.2 | (with_reducible refine Kd.C_alloc ?_ _) | (with_reducible refine Kd.C_drewN ?_ _) | (with_reducible refine Kd.C_drew ?_))); (case side4 => exact (Kd.R_reads' HO196.out).2.1); (case side5 => exact far_slice (IsS77.own_ne HI0.out HO196.out (by decide))); rintro e w144 ⟨rfl, hi, hb, hk⟩; refine ⟨_, rfl, ?_⟩; have n0_ := Aside0.mk (Kd.R_mono (Kd.R_keep (IsS77.apart (show IsS77 w0 _ g s0_0 t182 t183 from by repeat (first | (with_reducible first | exact HI0.out | apply IsS77.alloc | apply IsS77.drewN | apply IsS77.drew | apply IsS77.set_1 | apply IsS77.set_2) | exact HI0.out)) (by (with_reducible repeat (first | apply Kd.R_alloc | apply Kd.R_drewN | apply Kd.R_drew)); exact HO_5.out) (by decide)) hk (fun _ h => h.2)) (fun _ h => h.1)); have n1_ := Aside0.mk (Kd.R_mono (Kd.R_keep (IsS77.apart (show IsS77 w0 _ g s0_0 t182 t183 from by repeat (first | (with_reducible first | exact HI0.out | apply IsS77.alloc | apply IsS77.drewN | apply IsS77.drew | apply IsS77.set_1 | apply IsS77.set_2) | exact HI0.out)) (by (with_reducible repeat (first | apply Kd.R_alloc | apply Kd.R_drewN | apply Kd.R_drew)); exact HO196.out) (by decide)) hk (fun _ h => h.2)) (fun _ h => h.1)); have n2_ := Aside0.mk (KeepBut.trans (by repeat (first | (with_reducible first | exact HK.out | apply KeepBut.set_ | apply keep_drewN | apply keep_drew | apply keep_alloc) | exact HK.out)) hk (.inl rfl)); have n3_ := Aside0.mk (hb); have n4_ := Aside0.mk (hi); clear HO_5; clear HO196; clear HK; clear HB; clear HI0; have HO_5 := n0_; have HO196 := n1_; have HK := n2_; have HB := n3_; have HI0 := n4_; clear n0_ n1_ n2_ n3_ n4_; (try clear hb); (try clear hb2); (try clear hk); (try clear hi)))
                          go_ret2
                          exact ⟨_, by first | rfl | (simp [errW_none, errW_some] <;> rfl) | (simp [*, errW_none, errW_some] <;> rfl), by (with_reducible repeat (first | apply Kd.R_alloc | apply Kd.R_drewN | apply Kd.R_drew)); exact Kd.R_mono HO_5.out (fun _ hk => trivial), by repeat (first | (with_reducible first | exact HI0.out | apply IsS77.alloc | apply IsS77.drewN | apply IsS77.drew | apply IsS77.set_1 | apply IsS77.set_2) | exact HI0.out), by repeat (first | (with_reducible first | exact HB.out | apply below_alloc | apply pw_below_drewN | apply below_drew1 | refine below_set ?_ (IsS77.ge HI0.out)) | exact HB.out), by repeat (first | (with_reducible first | exact HK.out | apply KeepBut.set_ | apply keep_drewN | apply keep_drew | apply keep_alloc) | exact HK.out)⟩
                        · rw [if_neg c138] at H
                          have c138b0 : (t181 == 1) = false := beq_eq_false_iff_ne.mpr c138
                          have c138b1 : (t181 != 1) = true := bne_iff_ne.mpr c138
                          simp only [Option.some.injEq, Prod.mk.injEq] at H
                          obtain ⟨rfl, rfl, rfl, rfl⟩ := H
                          go_wp2_with (first | ((with_reducible refine gate_callee (f := 87) rfl ?_); refine goesL_ (some 132) rfl rfl Try.func87 (by kernel_rfl) rfl #[.pointer (some ⟨g, 0, none⟩), .int .i64 12] rfl (by (try simp only [List.map_toArray, List.map_cons, List.map_nil]); first | done | rfl | (simp only [List.length_drop, List.length_take]; rfl)) ?_; (with_reducible refine (spec_l1Cur_pick.calls g s0_0 x1001_21 x1002_21 12 t181 t182 t183 w0 _ ?side1 ?side2 A123.out).mono ?_); (case side1 => repeat (first | (with_reducible first | exact HI0.out | apply IsS77.alloc | apply IsS77.drewN | apply IsS77.drew | apply IsS77.set_1 | apply IsS77.set_2) | exact HI0.out)); (case side2 => repeat (first | (with_reducible first | exact HB.out | apply below_alloc | apply pw_below_drewN | apply below_drew1 | refine below_set ?_ (IsS77.ge HI0.out)) | exact HB.out)); rintro e w145 ⟨rfl, hi, hb, hk⟩; refine ⟨_, rfl, ?_⟩; have n0_ := Aside0.mk (Kd.R_mono (Kd.R_keep (IsS77.apart (show IsS77 w0 _ g s0_0 x1001_21 x1002_21 from by repeat (first | (with_reducible first | exact HI0.out | apply IsS77.alloc | apply IsS77.drewN | apply IsS77.drew | apply IsS77.set_1 | apply IsS77.set_2) | exact HI0.out)) (by (with_reducible repeat (first | apply Kd.R_alloc | apply Kd.R_drewN | apply Kd.R_drew)); exact HO_5.out) (by decide)) hk (fun _ h => h.2)) (fun _ h => h.1)); have n1_ := Aside0.mk (KeepBut.trans (by repeat (first | (with_reducible first | exact HK.out | apply KeepBut.set_ | apply keep_drewN | apply keep_drew | apply keep_alloc) | exact HK.out)) hk (.inl rfl)); have n2_ := Aside0.mk (hb); have n3_ := Aside0.mk (hi); clear HO_5; clear HK; clear HB; clear HI0; have HO_5 := n0_; have HK := n1_; have HB := n2_; have HI0 := n3_; clear n0_ n1_ n2_ n3_; (try clear hb); (try clear hb2); (try clear hk); (try clear hi)))
                          go_ret2
                          exact ⟨_, by first | rfl | (simp [errW_none, errW_some] <;> rfl) | (simp [*, errW_none, errW_some] <;> rfl), by (with_reducible repeat (first | apply Kd.R_alloc | apply Kd.R_drewN | apply Kd.R_drew)); exact HO_5.out, by repeat (first | (with_reducible first | exact HI0.out | apply IsS77.alloc | apply IsS77.drewN | apply IsS77.drew | apply IsS77.set_1 | apply IsS77.set_2) | exact HI0.out), by repeat (first | (with_reducible first | exact HB.out | apply below_alloc | apply pw_below_drewN | apply below_drew1 | refine below_set ?_ (IsS77.ge HI0.out)) | exact HB.out), by repeat (first | (with_reducible first | exact HK.out | apply KeepBut.set_ | apply keep_drewN | apply keep_drew | apply keep_alloc) | exact HK.out)⟩
    · rw [if_neg c5] at H
      exact absurd H (by simp)
  · rw [if_neg c4] at H
    exact absurd H (by simp)

end Go.Proofs.Ytmdhclpkbopmdaa.Q
