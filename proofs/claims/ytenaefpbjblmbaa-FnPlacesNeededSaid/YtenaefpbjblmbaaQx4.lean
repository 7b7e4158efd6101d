-- PRINTED by print.py (a twelfth state) out of the translation. Not trusted: Lean checks it.
import Derived.Test.YtenaefpbjblmbaaQx0
import Derived.Test.YtenaefpbjblmbaaQx3
namespace Go.Proofs.Ytenaefpbjblmbaa.Given
end Go.Proofs.Ytenaefpbjblmbaa.Given
namespace Go.Proofs.Ytenaefpbjblmbaa.Q
open Go.Proofs.Ytenaefpbjblmbaa.Given Go.RowKit Go.Proofs.YtenaefpbjblmbaaW.PrintWords Go.Proofs.YtenaefpbjblmbaaW.PrintLast Go.Proofs.YtenaefpbjblmbaaW.PrintMore
attribute [local go_sem] max2_int min2_int max_two min_two max_three min_three max_four min_four   -- for this text's walks alone
set_option linter.unusedVariables false
set_option linter.unusedSimpArgs false

/-! ### spec_hxNeed: function 58 -/
mutual
def spec_hxNeed.l0 : Nat → Int → Int → List Int → Int → Int → List Int → Int → Int → Option (Int)
  | 0, _, _, _, _, _, _, _, _ => none
  | k + 1, x0, x1, x2, x3, x9, x10, x26, x27 => if x27 < x26 then (if 0 ≤ x27 then (if x27 < (x10.length : Int) then ((some (x10.set (x27 : Int).toNat (wrap64 (x9 + 1)) : List Int)).bind fun y220 => (if x27 < (x2.length : Int) then (if (rd x2 x27) = (wrap64 (3 - x3)) then (spec_hxNeed.j1 k x0 x1 x2 x3 x9 y220 x27 x26 x27 false) else (if x3 = 1 then (if x27 < x1 then (spec_hxNeed.j1 k x0 x1 x2 x3 x9 y220 x27 x26 x27 true) else (if x3 = 2 then (if x1 = 0 then (none) else (spec_hxNeed.j1 k x0 x1 x2 x3 x9 y220 x27 x26 x27 ((Int.tmod x27 x1) == 0))) else (spec_hxNeed.j1 k x0 x1 x2 x3 x9 y220 x27 x26 x27 false))) else (if x3 = 2 then (if x1 = 0 then (none) else (spec_hxNeed.j1 k x0 x1 x2 x3 x9 y220 x27 x26 x27 ((Int.tmod x27 x1) == 0))) else (spec_hxNeed.j1 k x0 x1 x2 x3 x9 y220 x27 x26 x27 false)))) else (none))) else (none)) else (none)) else (spec_hxNeed.l1 k x0 x1 x2 x3 x9 x10 0)
def spec_hxNeed.j1 : Nat → Int → Int → List Int → Int → Int → List Int → Int → Int → Int → Bool → Option (Int)
  | 0, _, _, _, _, _, _, _, _, _, _ => none
  | k + 1, x0, x1, x2, x3, x9, x10, x11, x26, x27, x60 => if x60 = true then (if 0 ≤ x11 then (if x11 < (x10.length : Int) then ((some (x10.set (x11 : Int).toNat 0 : List Int)).bind fun y222 => (if x11 < (x2.length : Int) then (if (rd x2 x11) = 0 then (spec_hxNeed.l0 k x0 x1 x2 x3 x9 (y222.set (x11 : Int).toNat 1) x26 (wrap64 (x27 + 1))) else (spec_hxNeed.l0 k x0 x1 x2 x3 x9 y222 x26 (wrap64 (x27 + 1)))) else (none))) else (none)) else (none)) else (spec_hxNeed.l0 k x0 x1 x2 x3 x9 x10 x26 (wrap64 (x27 + 1)))
def spec_hxNeed.l1 : Nat → Int → Int → List Int → Int → Int → List Int → Int → Option (Int)
  | 0, _, _, _, _, _, _, _ => none
  | k + 1, x0, x1, x2, x3, x9, x10, x12 => if x12 < x9 then (spec_hxNeed.l2 k x0 x1 x2 x3 x9 x10 x12 (x10.length : Int) 0) else (spec_hxNeed.l4 k x1 x3 x9 (wrap64 (x9 + 1)) x10 (x10.length : Int) 0)
def spec_hxNeed.l2 : Nat → Int → Int → List Int → Int → Int → List Int → Int → Int → Int → Option (Int)
  | 0, _, _, _, _, _, _, _, _, _ => none
  | k + 1, x0, x1, x2, x3, x9, x10, x12, x79, x80 => if x80 < x79 then ((spec_hxAround.f k x0 x1 x80).bind fun t225 => (spec_hxNeed.l3 k x0 x1 x2 x3 x9 x10 x12 x80 x79 x80 t225 (t225.length : Int) 0)) else (spec_hxNeed.l1 k x0 x1 x2 x3 x9 x10 (wrap64 (x12 + 1)))
def spec_hxNeed.l3 : Nat → Int → Int → List Int → Int → Int → List Int → Int → Int → Int → Int → List Int → Int → Int → Option (Int)
  | 0, _, _, _, _, _, _, _, _, _, _, _, _, _ => none
  | k + 1, x0, x1, x2, x3, x9, x10, x12, x13, x79, x80, x86, x87, x88 => if x88 < x87 then (if 0 ≤ x88 then (if x88 < (x86.length : Int) then (if 0 ≤ (rd x86 x88) then (if (rd x86 x88) < (x2.length : Int) then (if (rd x2 (rd x86 x88)) = (wrap64 (3 - x3)) then (spec_hxNeed.l3 k x0 x1 x2 x3 x9 x10 x12 x13 x79 x80 x86 x87 (wrap64 (x88 + 1))) else (if 0 ≤ x13 then (if x13 < (x10.length : Int) then (if (rd x2 (rd x86 x88)) = 0 then (if (rd x86 x88) < (x10.length : Int) then ((spec_l1Least.f (rd x10 (rd x86 x88)) (wrap64 ((rd x10 x13) + 1))).bind fun t233 => (spec_hxNeed.l3 k x0 x1 x2 x3 x9 (x10.set ((rd x86 x88) : Int).toNat t233) x12 x13 x79 x80 x86 x87 (wrap64 (x88 + 1)))) else (none)) else (if (rd x86 x88) < (x10.length : Int) then ((spec_l1Least.f (rd x10 (rd x86 x88)) (rd x10 x13)).bind fun t236 => (spec_hxNeed.l3 k x0 x1 x2 x3 x9 (x10.set ((rd x86 x88) : Int).toNat t236) x12 x13 x79 x80 x86 x87 (wrap64 (x88 + 1)))) else (none))) else (none)) else (none))) else (none)) else (none)) else (none)) else (none)) else (spec_hxNeed.l2 k x0 x1 x2 x3 x9 x10 x12 x79 (wrap64 (x80 + 1)))
def spec_hxNeed.l4 : Nat → Int → Int → Int → Int → List Int → Int → Int → Option (Int)
  | 0, _, _, _, _, _, _, _ => none
  | k + 1, x1, x3, x9, x17, x123, x124, x125 => if x125 < x124 then (if 0 ≤ x125 then (if x125 < (x123.length : Int) then (if x3 = 1 then (if x125 ≥ (wrap64 (x9 - x1)) then ((spec_l1Least.f x17 (rd x123 x125)).bind fun t239 => (spec_hxNeed.l4 k x1 x3 x9 t239 x123 x124 (wrap64 (x125 + 1)))) else (if x3 = 2 then (if x1 = 0 then (none) else (if (Int.tmod x125 x1) = (wrap64 (x1 - 1)) then ((spec_l1Least.f x17 (rd x123 x125)).bind fun t240 => (spec_hxNeed.l4 k x1 x3 x9 t240 x123 x124 (wrap64 (x125 + 1)))) else (spec_hxNeed.l4 k x1 x3 x9 x17 x123 x124 (wrap64 (x125 + 1))))) else (spec_hxNeed.l4 k x1 x3 x9 x17 x123 x124 (wrap64 (x125 + 1))))) else (if x3 = 2 then (if x1 = 0 then (none) else (if (Int.tmod x125 x1) = (wrap64 (x1 - 1)) then ((spec_l1Least.f x17 (rd x123 x125)).bind fun t241 => (spec_hxNeed.l4 k x1 x3 x9 t241 x123 x124 (wrap64 (x125 + 1)))) else (spec_hxNeed.l4 k x1 x3 x9 x17 x123 x124 (wrap64 (x125 + 1))))) else (spec_hxNeed.l4 k x1 x3 x9 x17 x123 x124 (wrap64 (x125 + 1))))) else (none)) else (none)) else (some x17)
end
def spec_hxNeed.f (k : Nat) (a0 : Int) (a1 : Int) (l2 : List Int) (a3 : Int) : Option (Int) := if 0 ≤ (wrap64 (a0 * a1)) then (if (wrap64 (a0 * a1) : Int).toNat ≤ 35184372088832 then ((some (List.replicate (wrap64 (a0 * a1) : Int).toNat 0 : List Int)).bind fun y217 => (spec_hxNeed.l0 k a0 a1 l2 a3 (wrap64 (a0 * a1)) y217 (y217.length : Int) 0)) else (none)) else (none)
theorem spec_hxNeed.mono_l : ∀ k, (∀ y0 y1 y2 y3 y4 y5 y6 y7, LeO (spec_hxNeed.l0 k y0 y1 y2 y3 y4 y5 y6 y7) (spec_hxNeed.l0 (k + 1) y0 y1 y2 y3 y4 y5 y6 y7)) ∧ (∀ y0 y1 y2 y3 y4 y5 y6 y7 y8 y9, LeO (spec_hxNeed.j1 k y0 y1 y2 y3 y4 y5 y6 y7 y8 y9) (spec_hxNeed.j1 (k + 1) y0 y1 y2 y3 y4 y5 y6 y7 y8 y9)) ∧ (∀ y0 y1 y2 y3 y4 y5 y6, LeO (spec_hxNeed.l1 k y0 y1 y2 y3 y4 y5 y6) (spec_hxNeed.l1 (k + 1) y0 y1 y2 y3 y4 y5 y6)) ∧ (∀ y0 y1 y2 y3 y4 y5 y6 y7 y8, LeO (spec_hxNeed.l2 k y0 y1 y2 y3 y4 y5 y6 y7 y8) (spec_hxNeed.l2 (k + 1) y0 y1 y2 y3 y4 y5 y6 y7 y8)) ∧ (∀ y0 y1 y2 y3 y4 y5 y6 y7 y8 y9 y10 y11 y12, LeO (spec_hxNeed.l3 k y0 y1 y2 y3 y4 y5 y6 y7 y8 y9 y10 y11 y12) (spec_hxNeed.l3 (k + 1) y0 y1 y2 y3 y4 y5 y6 y7 y8 y9 y10 y11 y12)) ∧ (∀ y0 y1 y2 y3 y4 y5 y6, LeO (spec_hxNeed.l4 k y0 y1 y2 y3 y4 y5 y6) (spec_hxNeed.l4 (k + 1) y0 y1 y2 y3 y4 y5 y6))
  | 0 => ⟨fun _ _ _ _ _ _ _ _ r h => by simp [spec_hxNeed.l0] at h, fun _ _ _ _ _ _ _ _ _ _ r h => by simp [spec_hxNeed.j1] at h, fun _ _ _ _ _ _ _ r h => by simp [spec_hxNeed.l1] at h, fun _ _ _ _ _ _ _ _ _ r h => by simp [spec_hxNeed.l2] at h, fun _ _ _ _ _ _ _ _ _ _ _ _ _ r h => by simp [spec_hxNeed.l3] at h, fun _ _ _ _ _ _ _ r h => by simp [spec_hxNeed.l4] at h⟩
  | k + 1 => by
    obtain ⟨ih0, ih1, ih2, ih3, ih4, ih5⟩ := spec_hxNeed.mono_l k
    refine ⟨?_, ?_, ?_, ?_, ?_, ?_⟩
    · intro y0 y1 y2 y3 y4 y5 y6 y7
      unfold spec_hxNeed.l0
      repeat' first
      | (with_reducible exact ih0 _ _ _ _ _ _ _ _)
      | (with_reducible exact ih1 _ _ _ _ _ _ _ _ _ _)
      | (with_reducible exact ih2 _ _ _ _ _ _ _)
      | (with_reducible exact ih3 _ _ _ _ _ _ _ _ _)
      | (with_reducible exact ih4 _ _ _ _ _ _ _ _ _ _ _ _ _)
      | (with_reducible exact ih5 _ _ _ _ _ _ _)
      | (with_reducible exact spec_hxAround.mono _ _ _ _)
      | (with_reducible exact LeO.refl _)
      | (with_reducible exact LeO.none _)
      | (with_reducible refine LeO.ite ?_ ?_)
      | (with_reducible refine LeO.bind ?_ (fun _ => ?_))
      | exact ih0 _ _ _ _ _ _ _ _
      | exact ih1 _ _ _ _ _ _ _ _ _ _
      | exact ih2 _ _ _ _ _ _ _
      | exact ih3 _ _ _ _ _ _ _ _ _
      | exact ih4 _ _ _ _ _ _ _ _ _ _ _ _ _
      | exact ih5 _ _ _ _ _ _ _
      | exact spec_hxAround.mono _ _ _ _
      | exact LeO.none _
      | refine LeO.ite ?_ ?_
      | refine LeO.bind ?_ (fun _ => ?_)
    · intro y0 y1 y2 y3 y4 y5 y6 y7 y8 y9
      unfold spec_hxNeed.j1
      repeat' first
      | (with_reducible exact ih0 _ _ _ _ _ _ _ _)
      | (with_reducible exact ih1 _ _ _ _ _ _ _ _ _ _)
      | (with_reducible exact ih2 _ _ _ _ _ _ _)
      | (with_reducible exact ih3 _ _ _ _ _ _ _ _ _)
      | (with_reducible exact ih4 _ _ _ _ _ _ _ _ _ _ _ _ _)
      | (with_reducible exact ih5 _ _ _ _ _ _ _)
      | (with_reducible exact spec_hxAround.mono _ _ _ _)
      | (with_reducible exact LeO.refl _)
      | (with_reducible exact LeO.none _)
      | (with_reducible refine LeO.ite ?_ ?_)
      | (with_reducible refine LeO.bind ?_ (fun _ => ?_))
      | exact ih0 _ _ _ _ _ _ _ _
      | exact ih1 _ _ _ _ _ _ _ _ _ _
      | exact ih2 _ _ _ _ _ _ _
      | exact ih3 _ _ _ _ _ _ _ _ _
      | exact ih4 _ _ _ _ _ _ _ _ _ _ _ _ _
      | exact ih5 _ _ _ _ _ _ _
      | exact spec_hxAround.mono _ _ _ _
      | exact LeO.none _
      | refine LeO.ite ?_ ?_
      | refine LeO.bind ?_ (fun _ => ?_)
    · intro y0 y1 y2 y3 y4 y5 y6
      unfold spec_hxNeed.l1
      repeat' first
      | (with_reducible exact ih0 _ _ _ _ _ _ _ _)
      | (with_reducible exact ih1 _ _ _ _ _ _ _ _ _ _)
      | (with_reducible exact ih2 _ _ _ _ _ _ _)
      | (with_reducible exact ih3 _ _ _ _ _ _ _ _ _)
      | (with_reducible exact ih4 _ _ _ _ _ _ _ _ _ _ _ _ _)
      | (with_reducible exact ih5 _ _ _ _ _ _ _)
      | (with_reducible exact spec_hxAround.mono _ _ _ _)
      | (with_reducible exact LeO.refl _)
      | (with_reducible exact LeO.none _)
      | (with_reducible refine LeO.ite ?_ ?_)
      | (with_reducible refine LeO.bind ?_ (fun _ => ?_))
      | exact ih0 _ _ _ _ _ _ _ _
      | exact ih1 _ _ _ _ _ _ _ _ _ _
      | exact ih2 _ _ _ _ _ _ _
      | exact ih3 _ _ _ _ _ _ _ _ _
      | exact ih4 _ _ _ _ _ _ _ _ _ _ _ _ _
      | exact ih5 _ _ _ _ _ _ _
      | exact spec_hxAround.mono _ _ _ _
      | exact LeO.none _
      | refine LeO.ite ?_ ?_
      | refine LeO.bind ?_ (fun _ => ?_)
    · intro y0 y1 y2 y3 y4 y5 y6 y7 y8
      unfold spec_hxNeed.l2
      repeat' first
      | (with_reducible exact ih0 _ _ _ _ _ _ _ _)
      | (with_reducible exact ih1 _ _ _ _ _ _ _ _ _ _)
      | (with_reducible exact ih2 _ _ _ _ _ _ _)
      | (with_reducible exact ih3 _ _ _ _ _ _ _ _ _)
      | (with_reducible exact ih4 _ _ _ _ _ _ _ _ _ _ _ _ _)
      | (with_reducible exact ih5 _ _ _ _ _ _ _)
      | (with_reducible exact spec_hxAround.mono _ _ _ _)
      | (with_reducible exact LeO.refl _)
      | (with_reducible exact LeO.none _)
      | (with_reducible refine LeO.ite ?_ ?_)
      | (with_reducible refine LeO.bind ?_ (fun _ => ?_))
      | exact ih0 _ _ _ _ _ _ _ _
      | exact ih1 _ _ _ _ _ _ _ _ _ _
      | exact ih2 _ _ _ _ _ _ _
      | exact ih3 _ _ _ _ _ _ _ _ _
      | exact ih4 _ _ _ _ _ _ _ _ _ _ _ _ _
      | exact ih5 _ _ _ _ _ _ _
      | exact spec_hxAround.mono _ _ _ _
      | exact LeO.none _
      | refine LeO.ite ?_ ?_
      | refine LeO.bind ?_ (fun _ => ?_)
    · intro y0 y1 y2 y3 y4 y5 y6 y7 y8 y9 y10 y11 y12
      unfold spec_hxNeed.l3
      repeat' first
      | (with_reducible exact ih0 _ _ _ _ _ _ _ _)
      | (with_reducible exact ih1 _ _ _ _ _ _ _ _ _ _)
      | (with_reducible exact ih2 _ _ _ _ _ _ _)
      | (with_reducible exact ih3 _ _ _ _ _ _ _ _ _)
      | (with_reducible exact ih4 _ _ _ _ _ _ _ _ _ _ _ _ _)
      | (with_reducible exact ih5 _ _ _ _ _ _ _)
      | (with_reducible exact spec_hxAround.mono _ _ _ _)
      | (with_reducible exact LeO.refl _)
      | (with_reducible exact LeO.none _)
      | (with_reducible refine LeO.ite ?_ ?_)
      | (with_reducible refine LeO.bind ?_ (fun _ => ?_))
      | exact ih0 _ _ _ _ _ _ _ _
      | exact ih1 _ _ _ _ _ _ _ _ _ _
      | exact ih2 _ _ _ _ _ _ _
      | exact ih3 _ _ _ _ _ _ _ _ _
      | exact ih4 _ _ _ _ _ _ _ _ _ _ _ _ _
      | exact ih5 _ _ _ _ _ _ _
      | exact spec_hxAround.mono _ _ _ _
      | exact LeO.none _
      | refine LeO.ite ?_ ?_
      | refine LeO.bind ?_ (fun _ => ?_)
    · intro y0 y1 y2 y3 y4 y5 y6
      unfold spec_hxNeed.l4
      repeat' first
      | (with_reducible exact ih0 _ _ _ _ _ _ _ _)
      | (with_reducible exact ih1 _ _ _ _ _ _ _ _ _ _)
      | (with_reducible exact ih2 _ _ _ _ _ _ _)
      | (with_reducible exact ih3 _ _ _ _ _ _ _ _ _)
      | (with_reducible exact ih4 _ _ _ _ _ _ _ _ _ _ _ _ _)
      | (with_reducible exact ih5 _ _ _ _ _ _ _)
      | (with_reducible exact spec_hxAround.mono _ _ _ _)
      | (with_reducible exact LeO.refl _)
      | (with_reducible exact LeO.none _)
      | (with_reducible refine LeO.ite ?_ ?_)
      | (with_reducible refine LeO.bind ?_ (fun _ => ?_))
      | exact ih0 _ _ _ _ _ _ _ _
      | exact ih1 _ _ _ _ _ _ _ _ _ _
      | exact ih2 _ _ _ _ _ _ _
      | exact ih3 _ _ _ _ _ _ _ _ _
      | exact ih4 _ _ _ _ _ _ _ _ _ _ _ _ _
      | exact ih5 _ _ _ _ _ _ _
      | exact spec_hxAround.mono _ _ _ _
      | exact LeO.none _
      | refine LeO.ite ?_ ?_
      | refine LeO.bind ?_ (fun _ => ?_)
theorem spec_hxNeed.mono : ∀ a0 a1 a2 a3 k, LeO (spec_hxNeed.f k a0 a1 a2 a3) (spec_hxNeed.f (k + 1) a0 a1 a2 a3) := by
  intro a0 a1 a2 a3 k
  obtain ⟨ih0, ih1, ih2, ih3, ih4, ih5⟩ := spec_hxNeed.mono_l k
  unfold spec_hxNeed.f
  repeat' first
      | (with_reducible exact ih0 _ _ _ _ _ _ _ _)
      | (with_reducible exact ih1 _ _ _ _ _ _ _ _ _ _)
      | (with_reducible exact ih2 _ _ _ _ _ _ _)
      | (with_reducible exact ih3 _ _ _ _ _ _ _ _ _)
      | (with_reducible exact ih4 _ _ _ _ _ _ _ _ _ _ _ _ _)
      | (with_reducible exact ih5 _ _ _ _ _ _ _)
      | (with_reducible exact spec_hxAround.mono _ _ _ _)
      | (with_reducible exact LeO.refl _)
      | (with_reducible exact LeO.none _)
      | (with_reducible refine LeO.ite ?_ ?_)
      | (with_reducible refine LeO.bind ?_ (fun _ => ?_))
      | exact ih0 _ _ _ _ _ _ _ _
      | exact ih1 _ _ _ _ _ _ _ _ _ _
      | exact ih2 _ _ _ _ _ _ _
      | exact ih3 _ _ _ _ _ _ _ _ _
      | exact ih4 _ _ _ _ _ _ _ _ _ _ _ _ _
      | exact ih5 _ _ _ _ _ _ _
      | exact spec_hxAround.mono _ _ _ _
      | exact LeO.none _
      | refine LeO.ite ?_ ?_
      | refine LeO.bind ?_ (fun _ => ?_)
set_option maxHeartbeats 8000000 in
set_option maxRecDepth 100000 in
theorem spec_hxNeed.calls (k : Nat) (a0 : Int) (a1 : Int) (A2 : Option Addr) (c2 : Nat) (l2 : List Int) (a3 : Int) (r : Int) (w : World) (hr2 : Kd.C (Kd.int .i64) w A2 l2.length l2) (hc2 : l2.length ≤ c2) (h : spec_hxNeed.f k a0 a1 l2 a3 = some r) :
    Calls Try.prog 58 #[.int .i64 a0, .int .i64 a1, .slice A2 l2.length c2, .int .i64 a3] w fun e w' => e = .returned (.int .i64 r) ∧ Below w.heap.size w w' := by
  have HR2 := Aside0.mk hr2
  have HC2 := Aside0.mk hc2
  clear hr2 hc2
  have HB := Aside0.mk (Below.refl w.heap.size w)
  have H : (if 0 ≤ (wrap64 (a0 * a1)) then (if (wrap64 (a0 * a1) : Int).toNat ≤ 35184372088832 then ((some (List.replicate (wrap64 (a0 * a1) : Int).toNat 0 : List Int)).bind fun y217 => (spec_hxNeed.l0 k a0 a1 l2 a3 (wrap64 (a0 * a1)) y217 (y217.length : Int) 0)) else (none)) else (none)) = some r := h
  clear h
  obtain ⟨ji5, hji5⟩ : ∃ j_ : Int, (wrap64 (a0 * a1)) = j_ := ⟨_, rfl⟩
  replace H : (if 0 ≤ (ji5) then (if (ji5 : Int).toNat ≤ 35184372088832 then ((some (List.replicate (ji5 : Int).toNat 0 : List Int)).bind fun y217 => (spec_hxNeed.l0 k a0 a1 l2 a3 ji5 y217 (y217.length : Int) 0)) else (none)) else (none)) = some r := by first | (rw [hji5] at H; exact H) | (simp only [hji5] at H ⊢; exact H)
  have hji5w : (IntKind.i64.wrap (a0 * a1)) = ji5 := (i64_w _).trans hji5
  by_cases c6 : 0 ≤ (ji5)
  · rw [if_pos c6] at H
    have c6b0 := eq_true c6
    have c6b1 : decide (0 ≤ (ji5)) = true := decide_eq_true c6
    clear c6
    by_cases c7 : (ji5 : Int).toNat ≤ 35184372088832
    · rw [if_pos c7] at H
      have c7b0 := eq_true c7
      have c7b1 : decide ((ji5 : Int).toNat ≤ 35184372088832) = true := decide_eq_true c7
      clear c7
      obtain ⟨y217, hy217⟩ : ∃ y_ : List Int, y_ = (List.replicate (ji5 : Int).toNat 0) := ⟨_, rfl⟩
      replace H : (spec_hxNeed.l0 k a0 a1 l2 a3 ji5 y217 (y217.length : Int) 0) = some r := by first | (rw [hy217]; with_reducible exact H) | (have H2_ := (Option.bind_some _ _).symm.trans H; rw [hy217]; with_reducible exact H2_) | (have H2_ := (Option.bind_some _ _).symm.trans H; with_reducible exact H2_) | with_reducible exact H | (rw [hy217]; exact H) | exact H
      have Ny217 := Aside0.mk hy217
      clear hy217
      have H' := Aside0.mk H
      clear H
      go_enter Try.func58, Try.ntmps58
      go_wp2_with (first | ((with_reducible refine gate_dst (N := 24) rfl ?_); refine Kd.R_make (Kd.int .i64) _ 3 rfl (N := 24) rfl 24 _ _ rfl ji5 rfl rfl Try.underlying24 (.int .i64 0) 8 info3 rfl (by decide) (by omega) 0 (ok := fun _ => True) (okp := fun _ => True) rfl (fun _ hk => hk) trivial (of_decide_eq_true (by first | (with_reducible assumption) | assumption)) (Nat.le_trans (Nat.mul_le_mul_right _ (of_decide_eq_true (by first | (with_reducible assumption) | assumption) : ji5.toNat ≤ 35184372088832)) (by omega)) (Below.refl _ _) (Nat.le_refl _) ?_; intro v218 w8 ho9 hb hg_ hnew_; clear hg_ hnew_; (first | rw [← Ny217.out] at ho9 | (simp only [Int.reduceToNat] at ho9; rw [← Ny217.out] at ho9)); have n0_ := Aside0.mk (Kd.R_lower ho9 (below_size (by repeat (first | (with_reducible first | exact HB.out | apply below_alloc | apply pw_below_drewN | apply below_drew1) | exact HB.out)))); have n1_ := Aside0.mk (below_step (by repeat (first | (with_reducible first | exact HB.out | apply below_alloc | apply pw_below_drewN | apply below_drew1) | exact HB.out)) hb); clear HB; have HO219 := n0_; have HB := n1_; clear n0_ n1_; clear hb ho9; obtain ⟨Ao10, co10, eo10⟩ := Kd.R_slice HO219.out; subst eo10))
      go_loopg [27] k (fun kq v27 w' => ∃ (x10_1 : List Int) (x27_1 : Int), v27 = .int .i64 x27_1 ∧ Aside0 (spec_hxNeed.l0 kq a0 a1 l2 a3 ji5 x10_1 (y217.length : Int) x27_1 = some r) ∧ Aside0 (kq ≤ k) ∧ Aside0 (Kd.R (Kd.int .i64) 3 w' w.heap.size (fun _ => True) (.slice Ao10 y217.length co10) x10_1) ∧ Aside0 (Below w.heap.size w w'))
      case atStart => exact ⟨(y217), (0), (by first | rfl | (simp; done) | (simp [*]; done)), H', ⟨Nat.le_refl _⟩, ⟨by (with_reducible repeat (first | apply Kd.R_alloc | apply Kd.R_drewN | apply Kd.R_drew)); exact HO219.out⟩, ⟨by repeat (first | (with_reducible first | exact HB.out | apply below_alloc | apply pw_below_drewN | apply below_drew1) | exact HB.out)⟩⟩
      case round =>
        clear H'
        try clear c2
        try clear p2
        try clear c5
        try clear c6
        try clear c6b0
        try clear c6b1
        try clear p6
        try clear c7
        try clear c7b0
        try clear c7b1
        obtain ⟨x10_1, x27_1, rfl, HA, HK1, HO_10, HB⟩ := hrel
        have hl10_1 := (Kd.R_reads' HO_10.out).1
        rw [hl10_1] at HO_10
        (try simp only [hl10_1])
        cases gk with
        | zero => exact absurd HA.out (by simp [spec_hxNeed.l0])
        | succ k1 =>
          have H := HA.out
          clear HA
          simp only [spec_hxNeed.l0] at H
          by_cases c11 : x27_1 < (y217.length : Int)
          · rw [if_pos c11] at H
            have c11b0 : decide (x27_1 < (y217.length : Int)) = true := decide_eq_true c11
            try (have c11b0e0 := c11b0; simp only [hl10_1] at c11b0e0)
            clear c11
            by_cases c12 : 0 ≤ x27_1
            · rw [if_pos c12] at H
              have c12b0 : decide (0 ≤ x27_1) = true := decide_eq_true c12
              clear c12
              by_cases c13 : x27_1 < (x10_1.length : Int)
              · rw [if_pos c13] at H
                have c13b0 : decide (x27_1 < (x10_1.length : Int)) = true := decide_eq_true c13
                try (have c13b0e0 := c13b0; simp only [hl10_1] at c13b0e0)
                clear c13
                obtain ⟨y220, hy220⟩ : ∃ y_ : List Int, y_ = (x10_1.set (x27_1 : Int).toNat (wrap64 (ji5 + 1))) := ⟨_, rfl⟩
                replace H : (if x27_1 < (l2.length : Int) then (if (rd l2 x27_1) = (wrap64 (3 - a3)) then (spec_hxNeed.j1 k1 a0 a1 l2 a3 ji5 y220 x27_1 (y217.length : Int) x27_1 false) else (if a3 = 1 then (if x27_1 < a1 then (spec_hxNeed.j1 k1 a0 a1 l2 a3 ji5 y220 x27_1 (y217.length : Int) x27_1 true) else (if a3 = 2 then (if a1 = 0 then (none) else (spec_hxNeed.j1 k1 a0 a1 l2 a3 ji5 y220 x27_1 (y217.length : Int) x27_1 ((Int.tmod x27_1 a1) == 0))) else (spec_hxNeed.j1 k1 a0 a1 l2 a3 ji5 y220 x27_1 (y217.length : Int) x27_1 false))) else (if a3 = 2 then (if a1 = 0 then (none) else (spec_hxNeed.j1 k1 a0 a1 l2 a3 ji5 y220 x27_1 (y217.length : Int) x27_1 ((Int.tmod x27_1 a1) == 0))) else (spec_hxNeed.j1 k1 a0 a1 l2 a3 ji5 y220 x27_1 (y217.length : Int) x27_1 false)))) else (none)) = some r := by first | (rw [hy220]; with_reducible exact H) | (have H2_ := (Option.bind_some _ _).symm.trans H; rw [hy220]; with_reducible exact H2_) | (have H2_ := (Option.bind_some _ _).symm.trans H; with_reducible exact H2_) | with_reducible exact H | (rw [hy220]; exact H) | exact H
                have Ny220 := Aside0.mk hy220
                clear hy220
                have HC15 := Aside0.mk H
                clear H
                have p14 : 0 ≤ (x27_1 : Int) := of_decide_eq_true (by first | (with_reducible assumption) | assumption)
                have q14 : (x27_1 : Int) < ((x10_1.length : Int) : Int) := of_decide_eq_true (by first | (with_reducible assumption) | assumption)
                obtain ⟨go14, co14, eo14, gb14, gl14, cl14, HG14⟩ := Kd.R_form HO_10.out (by omega)
                (first | cases eo14 | (injection eo14 with ea_ en_ ec_; (first | subst ea_ | (injection ea_ with ea_; subst ea_)); subst ec_; clear en_))
                have GB14 := Aside0.mk gb14
                have GG14 := Aside0.mk HG14
                clear gb14 gl14 HG14
                obtain ⟨hx14_0, hf14_0⟩ := Kd.R_celln 0 HO_10.out (x27_1 : Int) p14 q14
                replace p14 := eq_true p14
                replace q14 := eq_true q14
                have HP16 := Kd.R_putg HO_10.out (x27_1 : Int) (wrap64 (ji5 + 1))
                go_upto_region 7 with (first | ((with_reducible refine gate_store (t := 3) (p := 34) rfl ?_); refine store_event (t := 3) (p := 34) (v := ?vo_w17) (w1 := (wr.setCell ⟨go14, (x27_1 : Int).toNat, none⟩ (.int .i64 (wrap64 (ji5 + 1))))) ?hg ?ho ?hn ?hr ?_; (case ho => rfl); (case hg => rfl); (case hn => rfl); (case hr => first | (go_simp; done) | (go_simp; rfl)); intro w17 hw; have hg : wr.grownBy w17 (some go14) := (by rw [hw]; exact HP16.2); have hp_ : Kd.R (Kd.int .i64) 3 w17 w.heap.size (fun _ => True) (.slice (some ⟨go14, 0, none⟩) x10_1.length co10) y220 := (by rw [hw, Ny220.out]; exact HP16.1); clear HP16; have n0_ := Aside0.mk (hp_); have n1_ := Aside0.mk ((by rw [hw]; exact below_set (HB.out) GB14.out : Below w.heap.size w w17)); clear HO_10; clear HB; have HO_10 := n0_; have HB := n1_; clear n0_ n1_; clear hg hw hp_))
                (try simp only [Act.put, List.setIfInBounds_toArray, List.set_cons_zero, List.set_cons_succ])
                go_cut [60] (fun v60 wc => ∃ (kq : Nat) (x60_14 : Bool), v60 = .bool x60_14 ∧ Aside0 (spec_hxNeed.j1 kq a0 a1 l2 a3 ji5 y220 x27_1 (y217.length : Int) x27_1 x60_14 = some r) ∧ Aside0 (kq ≤ k1) ∧ Aside0 (Kd.R (Kd.int .i64) 3 wc w.heap.size (fun _ => True) (.slice (some ⟨go14, 0, none⟩) x10_1.length co10) y220) ∧ Aside0 (Below w.heap.size w wc))
                case first =>
                  have H := HC15.out
                  clear HC15
                  by_cases c18 : x27_1 < (l2.length : Int)
                  · rw [if_pos c18] at H
                    have c18b0 : decide (x27_1 < (l2.length : Int)) = true := decide_eq_true c18
                    try (have c18b0e0 := c18b0; simp only [hl10_1] at c18b0e0)
                    clear c18
                    (first | rw [c18b0] | (simp only [i64_w, i32_w]; rw [c18b0]) | skip)
                    by_cases c19 : (rd l2 x27_1) = (wrap64 (3 - a3))
                    · rw [if_pos c19] at H
                      have c19b0 : ((rd l2 x27_1) == (wrap64 (3 - a3))) = true := beq_iff_eq.mpr c19
                      have c19b1 : ((rd l2 x27_1) != (wrap64 (3 - a3))) = false := bne_eq_false_iff_eq.mpr c19
                      clear c19
                      have H' := Aside0.mk H
                      clear H
                      have p221 : 0 ≤ (x27_1 : Int) := of_decide_eq_true (by first | (with_reducible assumption) | assumption)
                      have q221 : x27_1 < (l2.length : Int) := of_decide_eq_true (by first | (with_reducible assumption) | assumption)
                      obtain ⟨ad221, e221, hx221_0⟩ := Kd.at_int HR2.out x27_1 p221 q221
                      cases e221
                      replace hx221_0 := (HB.out.cell (World.block_lt_of_cell? w _ hx221_0)).trans hx221_0
                      replace p221 := eq_true p221
                      replace q221 := eq_true q221
                      go_wp2
                      go_meet
                      case rel => exact ⟨_, (false), (by first | rfl | (simp; done) | (simp [*]; done)), H', ⟨by have := HK1.out; first | omega | exact Nat.le_refl _⟩, ⟨by (try simp only [hl10_1]); (with_reducible repeat (first | apply Kd.R_alloc | apply Kd.R_drewN | apply Kd.R_drew)); exact HO_10.out⟩, ⟨by repeat (first | (with_reducible first | exact HB.out | apply below_alloc | apply pw_below_drewN | apply below_drew1) | exact HB.out)⟩⟩
                    · rw [if_neg c19] at H
                      have c19b0 : ((rd l2 x27_1) == (wrap64 (3 - a3))) = false := beq_eq_false_iff_ne.mpr c19
                      have c19b1 : ((rd l2 x27_1) != (wrap64 (3 - a3))) = true := bne_iff_ne.mpr c19
                      by_cases c20 : a3 = 1
                      · rw [if_pos c20] at H
                        have c20b0 : (a3 == 1) = true := beq_iff_eq.mpr c20
                        have c20b1 : (a3 != 1) = false := bne_eq_false_iff_eq.mpr c20
                        clear c20
                        by_cases c21 : x27_1 < a1
                        · rw [if_pos c21] at H
                          have c21b0 : decide (x27_1 < a1) = true := decide_eq_true c21
                          clear c21
                          have H' := Aside0.mk H
                          clear H
                          have p221 : 0 ≤ (x27_1 : Int) := of_decide_eq_true (by first | (with_reducible assumption) | assumption)
                          have q221 : x27_1 < (l2.length : Int) := of_decide_eq_true (by first | (with_reducible assumption) | assumption)
                          obtain ⟨ad221, e221, hx221_0⟩ := Kd.at_int HR2.out x27_1 p221 q221
                          cases e221
                          replace hx221_0 := (HB.out.cell (World.block_lt_of_cell? w _ hx221_0)).trans hx221_0
                          replace p221 := eq_true p221
                          replace q221 := eq_true q221
                          go_wp2
                          go_meet
                          case rel => exact ⟨_, (true), (by first | rfl | (simp; done) | (simp [*]; done)), H', ⟨by have := HK1.out; first | omega | exact Nat.le_refl _⟩, ⟨by (try simp only [hl10_1]); (with_reducible repeat (first | apply Kd.R_alloc | apply Kd.R_drewN | apply Kd.R_drew)); exact HO_10.out⟩, ⟨by repeat (first | (with_reducible first | exact HB.out | apply below_alloc | apply pw_below_drewN | apply below_drew1) | exact HB.out)⟩⟩
                        · rw [if_neg c21] at H
                          have c21b0 : decide (x27_1 < a1) = false := decide_eq_false c21
                          clear c21
                          by_cases c22 : a3 = 2
                          · rw [if_pos c22] at H
                            have c22b0 : (a3 == 2) = true := beq_iff_eq.mpr c22
                            have c22b1 : (a3 != 2) = false := bne_eq_false_iff_eq.mpr c22
                            clear c22
                            by_cases c23 : a1 = 0
                            · rw [if_pos c23] at H
                              exact absurd H (by simp)
                            · rw [if_neg c23] at H
                              have c23b0 : (a1 == 0) = false := beq_eq_false_iff_ne.mpr c23
                              have c23b1 : (a1 != 0) = true := bne_iff_ne.mpr c23
                              have H' := Aside0.mk H
                              clear H
                              have p221 : 0 ≤ (x27_1 : Int) := of_decide_eq_true (by first | (with_reducible assumption) | assumption)
                              have q221 : x27_1 < (l2.length : Int) := of_decide_eq_true (by first | (with_reducible assumption) | assumption)
                              obtain ⟨ad221, e221, hx221_0⟩ := Kd.at_int HR2.out x27_1 p221 q221
                              cases e221
                              replace hx221_0 := (HB.out.cell (World.block_lt_of_cell? w _ hx221_0)).trans hx221_0
                              replace p221 := eq_true p221
                              replace q221 := eq_true q221
                              go_wp2
                              go_meet
                              case rel => exact ⟨_, (((Int.tmod x27_1 a1) == 0)), (by first | rfl | (simp; done) | (simp [*]; done)), H', ⟨by have := HK1.out; first | omega | exact Nat.le_refl _⟩, ⟨by (try simp only [hl10_1]); (with_reducible repeat (first | apply Kd.R_alloc | apply Kd.R_drewN | apply Kd.R_drew)); exact HO_10.out⟩, ⟨by repeat (first | (with_reducible first | exact HB.out | apply below_alloc | apply pw_below_drewN | apply below_drew1) | exact HB.out)⟩⟩
                          · rw [if_neg c22] at H
                            have c22b0 : (a3 == 2) = false := beq_eq_false_iff_ne.mpr c22
                            have c22b1 : (a3 != 2) = true := bne_iff_ne.mpr c22
                            have H' := Aside0.mk H
                            clear H
                            have p221 : 0 ≤ (x27_1 : Int) := of_decide_eq_true (by first | (with_reducible assumption) | assumption)
                            have q221 : x27_1 < (l2.length : Int) := of_decide_eq_true (by first | (with_reducible assumption) | assumption)
                            obtain ⟨ad221, e221, hx221_0⟩ := Kd.at_int HR2.out x27_1 p221 q221
                            cases e221
                            replace hx221_0 := (HB.out.cell (World.block_lt_of_cell? w _ hx221_0)).trans hx221_0
                            replace p221 := eq_true p221
                            replace q221 := eq_true q221
                            go_wp2
                            go_meet
                            case rel => exact ⟨_, (false), (by first | rfl | (simp; done) | (simp [*]; done)), H', ⟨by have := HK1.out; first | omega | exact Nat.le_refl _⟩, ⟨by (try simp only [hl10_1]); (with_reducible repeat (first | apply Kd.R_alloc | apply Kd.R_drewN | apply Kd.R_drew)); exact HO_10.out⟩, ⟨by repeat (first | (with_reducible first | exact HB.out | apply below_alloc | apply pw_below_drewN | apply below_drew1) | exact HB.out)⟩⟩
                      · rw [if_neg c20] at H
                        have c20b0 : (a3 == 1) = false := beq_eq_false_iff_ne.mpr c20
                        have c20b1 : (a3 != 1) = true := bne_iff_ne.mpr c20
                        by_cases c24 : a3 = 2
                        · rw [if_pos c24] at H
                          have c24b0 : (a3 == 2) = true := beq_iff_eq.mpr c24
                          have c24b1 : (a3 != 2) = false := bne_eq_false_iff_eq.mpr c24
                          clear c24
                          by_cases c25 : a1 = 0
                          · rw [if_pos c25] at H
                            exact absurd H (by simp)
                          · rw [if_neg c25] at H
                            have c25b0 : (a1 == 0) = false := beq_eq_false_iff_ne.mpr c25
                            have c25b1 : (a1 != 0) = true := bne_iff_ne.mpr c25
                            have H' := Aside0.mk H
                            clear H
                            have p221 : 0 ≤ (x27_1 : Int) := of_decide_eq_true (by first | (with_reducible assumption) | assumption)
                            have q221 : x27_1 < (l2.length : Int) := of_decide_eq_true (by first | (with_reducible assumption) | assumption)
                            obtain ⟨ad221, e221, hx221_0⟩ := Kd.at_int HR2.out x27_1 p221 q221
                            cases e221
                            replace hx221_0 := (HB.out.cell (World.block_lt_of_cell? w _ hx221_0)).trans hx221_0
                            replace p221 := eq_true p221
                            replace q221 := eq_true q221
                            go_wp2
                            go_meet
                            case rel => exact ⟨_, (((Int.tmod x27_1 a1) == 0)), (by first | rfl | (simp; done) | (simp [*]; done)), H', ⟨by have := HK1.out; first | omega | exact Nat.le_refl _⟩, ⟨by (try simp only [hl10_1]); (with_reducible repeat (first | apply Kd.R_alloc | apply Kd.R_drewN | apply Kd.R_drew)); exact HO_10.out⟩, ⟨by repeat (first | (with_reducible first | exact HB.out | apply below_alloc | apply pw_below_drewN | apply below_drew1) | exact HB.out)⟩⟩
                        · rw [if_neg c24] at H
                          have c24b0 : (a3 == 2) = false := beq_eq_false_iff_ne.mpr c24
                          have c24b1 : (a3 != 2) = true := bne_iff_ne.mpr c24
                          have H' := Aside0.mk H
                          clear H
                          have p221 : 0 ≤ (x27_1 : Int) := of_decide_eq_true (by first | (with_reducible assumption) | assumption)
                          have q221 : x27_1 < (l2.length : Int) := of_decide_eq_true (by first | (with_reducible assumption) | assumption)
                          obtain ⟨ad221, e221, hx221_0⟩ := Kd.at_int HR2.out x27_1 p221 q221
                          cases e221
                          replace hx221_0 := (HB.out.cell (World.block_lt_of_cell? w _ hx221_0)).trans hx221_0
                          replace p221 := eq_true p221
                          replace q221 := eq_true q221
                          go_wp2
                          go_meet
                          case rel => exact ⟨_, (false), (by first | rfl | (simp; done) | (simp [*]; done)), H', ⟨by have := HK1.out; first | omega | exact Nat.le_refl _⟩, ⟨by (try simp only [hl10_1]); (with_reducible repeat (first | apply Kd.R_alloc | apply Kd.R_drewN | apply Kd.R_drew)); exact HO_10.out⟩, ⟨by repeat (first | (with_reducible first | exact HB.out | apply below_alloc | apply pw_below_drewN | apply below_drew1) | exact HB.out)⟩⟩
                  · rw [if_neg c18] at H
                    exact absurd H (by simp)
                case rest =>
                  clear HC15
                  try clear c1
                  try clear p1
                  try clear q1
                  try clear hx1
                  try clear c2
                  try clear p2
                  try clear q2
                  try clear hx2
                  try clear c5
                  try clear c6
                  try clear c6b0
                  try clear c6b1
                  try clear p6
                  try clear c7
                  try clear c7b0
                  try clear c7b1
                  try clear c11
                  try clear c11b0
                  try clear c12
                  try clear c12b0
                  try clear c13
                  try clear c13b0
                  try clear p14
                  try clear q14
                  try clear hx14
                  try clear hf14
                  try clear c18
                  try clear c18b0
                  try clear c19
                  try clear c19b0
                  try clear c19b1
                  try clear c20
                  try clear c20b0
                  try clear c20b1
                  try clear c21
                  try clear c21b0
                  try clear c22
                  try clear c22b0
                  try clear c22b1
                  try clear p22
                  try clear q22
                  try clear hx22
                  try clear c23
                  try clear c23b0
                  try clear c23b1
                  try clear c24
                  try clear c24b0
                  try clear c24b1
                  try clear c25
                  try clear c25b0
                  try clear c25b1
                  try clear hx14_0
                  try clear hx221_0
                  try clear p14
                  try clear p2
                  try clear p221
                  try clear p6
                  try clear q14
                  try clear q221
                  obtain ⟨kq, x60_14, rfl, HA, HJ14, HO_10, HB⟩ := hcut
                  have hl10_14 := (Kd.R_reads' HO_10.out).1
                  rw [hl10_14] at HO_10
                  (try simp only [hl10_14])
                  cases kq with
                  | zero => exact absurd HA.out (by simp [spec_hxNeed.j1])
                  | succ kj14 =>
                    have H := HA.out
                    clear HA
                    simp only [spec_hxNeed.j1] at H
                    by_cases c26 : x60_14 = true
                    · subst c26
                      have H1 : (if 0 ≤ x27_1 then (if x27_1 < (y220.length : Int) then ((some (y220.set (x27_1 : Int).toNat 0 : List Int)).bind fun y222 => (if x27_1 < (l2.length : Int) then (if (rd l2 x27_1) = 0 then (spec_hxNeed.l0 kj14 a0 a1 l2 a3 ji5 (y222.set (x27_1 : Int).toNat 1) (y217.length : Int) (wrap64 (x27_1 + 1))) else (spec_hxNeed.l0 kj14 a0 a1 l2 a3 ji5 y222 (y217.length : Int) (wrap64 (x27_1 + 1)))) else (none))) else (none)) else (none)) = some r := by rw [if_pos rfl] at H; exact H
                      clear H
                      have H := H1
                      clear H1
                      by_cases c27 : 0 ≤ x27_1
                      · rw [if_pos c27] at H
                        have c27b0 : decide (0 ≤ x27_1) = true := decide_eq_true c27
                        clear c27
                        by_cases c28 : x27_1 < (y220.length : Int)
                        · rw [if_pos c28] at H
                          have c28b0 : decide (x27_1 < (y220.length : Int)) = true := decide_eq_true c28
                          try (have c28b0e0 := c28b0; simp only [hl10_1] at c28b0e0)
                          try (have c28b0e1 := c28b0; simp only [hl10_14] at c28b0e1)
                          clear c28
                          obtain ⟨y222, hy222⟩ : ∃ y_ : List Int, y_ = (y220.set (x27_1 : Int).toNat 0) := ⟨_, rfl⟩
                          replace H : (if x27_1 < (l2.length : Int) then (if (rd l2 x27_1) = 0 then (spec_hxNeed.l0 kj14 a0 a1 l2 a3 ji5 (y222.set (x27_1 : Int).toNat 1) (y217.length : Int) (wrap64 (x27_1 + 1))) else (spec_hxNeed.l0 kj14 a0 a1 l2 a3 ji5 y222 (y217.length : Int) (wrap64 (x27_1 + 1)))) else (none)) = some r := by first | (rw [hy222]; with_reducible exact H) | (have H2_ := (Option.bind_some _ _).symm.trans H; rw [hy222]; with_reducible exact H2_) | (have H2_ := (Option.bind_some _ _).symm.trans H; with_reducible exact H2_) | with_reducible exact H | (rw [hy222]; exact H) | exact H
                          have Ny222 := Aside0.mk hy222
                          clear hy222
                          by_cases c30 : x27_1 < (l2.length : Int)
                          · rw [if_pos c30] at H
                            have c30b0 : decide (x27_1 < (l2.length : Int)) = true := decide_eq_true c30
                            try (have c30b0e0 := c30b0; simp only [hl10_1] at c30b0e0)
                            try (have c30b0e1 := c30b0; simp only [hl10_14] at c30b0e1)
                            clear c30
                            by_cases c31 : (rd l2 x27_1) = 0
                            · rw [if_pos c31] at H
                              have c31b0 : ((rd l2 x27_1) == 0) = true := beq_iff_eq.mpr c31
                              have c31b1 : ((rd l2 x27_1) != 0) = false := bne_eq_false_iff_eq.mpr c31
                              clear c31
                              obtain ⟨y224, hy224⟩ : ∃ y_ : List Int, y_ = (y222.set (x27_1 : Int).toNat 1) := ⟨_, rfl⟩
                              replace H : (spec_hxNeed.l0 kj14 a0 a1 l2 a3 ji5 y224 (y217.length : Int) (wrap64 (x27_1 + 1))) = some r := by first | (rw [hy224]; with_reducible exact H) | (have H2_ := (Option.bind_some _ _).symm.trans H; rw [hy224]; with_reducible exact H2_) | (have H2_ := (Option.bind_some _ _).symm.trans H; with_reducible exact H2_) | with_reducible exact H | (rw [hy224]; exact H) | exact H
                              have Ny224 := Aside0.mk hy224
                              clear hy224
                              have H' := Aside0.mk H
                              clear H
                              have p29 : 0 ≤ (x27_1 : Int) := of_decide_eq_true (by first | (with_reducible assumption) | assumption)
                              have q29 : (x27_1 : Int) < ((y220.length : Int) : Int) := of_decide_eq_true (by first | (with_reducible assumption) | assumption)
                              obtain ⟨hx29_0, hf29_0⟩ := Kd.R_celln 0 HO_10.out (x27_1 : Int) p29 q29
                              replace p29 := eq_true p29
                              replace q29 := eq_true q29
                              have HP33 := Kd.R_putg HO_10.out (x27_1 : Int) 0
                              go_wp2_with (first | ((with_reducible refine gate_store (t := 3) (p := 63) rfl ?_); refine store_event (t := 3) (p := 63) (v := ?vo_w34) (w1 := (wc.setCell ⟨go14, (x27_1 : Int).toNat, none⟩ (.int .i64 0))) ?hg ?ho ?hn ?hr ?_; (case ho => rfl); (case hg => rfl); (case hn => rfl); (case hr => first | (go_simp; done) | (go_simp; rfl)); intro w34 hw; have hg : wc.grownBy w34 (some go14) := (by rw [hw]; exact HP33.2); have hp_ : Kd.R (Kd.int .i64) 3 w34 w.heap.size (fun _ => True) (.slice (some ⟨go14, 0, none⟩) y220.length co10) y222 := (by rw [hw, Ny222.out]; exact HP33.1); clear HP33; have n0_ := Aside0.mk (hp_); have n1_ := Aside0.mk ((by rw [hw]; exact below_set (HB.out) GB14.out : Below w.heap.size w w34)); clear HO_10; clear HB; have HO_10 := n0_; have HB := n1_; clear n0_ n1_; clear hg hw hp_; have p223 : 0 ≤ (x27_1 : Int) := of_decide_eq_true (by first | (with_reducible assumption) | assumption); have q223 : x27_1 < (l2.length : Int) := of_decide_eq_true (by first | (with_reducible assumption) | assumption); obtain ⟨ad223, e223, hx223_0⟩ := Kd.at_int HR2.out x27_1 p223 q223; cases e223; replace hx223_0 := (HB.out.cell (World.block_lt_of_cell? w _ hx223_0)).trans hx223_0; replace p223 := eq_true p223; replace q223 := eq_true q223; have p32 : 0 ≤ (x27_1 : Int) := of_decide_eq_true (by first | (with_reducible assumption) | assumption); have q32 : (x27_1 : Int) < ((y220.length : Int) : Int) := of_decide_eq_true (by first | (with_reducible assumption) | assumption); obtain ⟨hx32_0, hf32_0⟩ := Kd.R_celln 0 HO_10.out (x27_1 : Int) p32 q32; replace p32 := eq_true p32; replace q32 := eq_true q32; obtain ⟨hy35_, hz35_⟩ := Kd.R_celln 0 HO_10.out (x27_1 : Int) (of_decide_eq_true (by first | (with_reducible assumption) | assumption)) (of_decide_eq_true (by first | (with_reducible assumption) | assumption)); have HP35 := Kd.R_putg HO_10.out (x27_1 : Int) 1) | ((with_reducible refine gate_store (t := 3) (p := 71) rfl ?_); refine store_event (t := 3) (p := 71) (v := ?vo_w36) (w1 := (w34.setCell ⟨go14, (x27_1 : Int).toNat, none⟩ (.int .i64 1))) ?hg ?ho ?hn ?hr ?_; (case ho => rfl); (case hg => rfl); (case hn => rfl); (case hr => first | (go_simp; done) | (go_simp; rfl)); intro w36 hw; have hg : w34.grownBy w36 (some go14) := (by rw [hw]; exact HP35.2); have hp_ : Kd.R (Kd.int .i64) 3 w36 w.heap.size (fun _ => True) (.slice (some ⟨go14, 0, none⟩) y220.length co10) y224 := (by rw [hw, Ny224.out]; exact HP35.1); clear HP35; have n0_ := Aside0.mk (hp_); have n1_ := Aside0.mk ((by rw [hw]; exact below_set (HB.out) GB14.out : Below w.heap.size w w36)); clear HO_10; clear HB; have HO_10 := n0_; have HB := n1_; clear n0_ n1_; clear hg hw hp_))
                              (try simp only [← hl10_1, ← hl10_14])
                              go_roundg kj14
                              case measure => have := HK1.out; have := HJ14.out; omega
                              case rel => exact ⟨(y224), (wrap64 (x27_1 + 1)), (by first | rfl | (simp; done) | (simp [*]; done)), H', ⟨by have := HK1.out; have := HJ14.out; omega⟩, ⟨by (try simp only [hl10_1]); (try simp only [hl10_14]); (with_reducible repeat (first | apply Kd.R_alloc | apply Kd.R_drewN | apply Kd.R_drew)); exact HO_10.out⟩, ⟨by repeat (first | (with_reducible first | exact HB.out | apply below_alloc | apply pw_below_drewN | apply below_drew1) | exact HB.out)⟩⟩
                            · rw [if_neg c31] at H
                              have c31b0 : ((rd l2 x27_1) == 0) = false := beq_eq_false_iff_ne.mpr c31
                              have c31b1 : ((rd l2 x27_1) != 0) = true := bne_iff_ne.mpr c31
                              have H' := Aside0.mk H
                              clear H
                              have p29 : 0 ≤ (x27_1 : Int) := of_decide_eq_true (by first | (with_reducible assumption) | assumption)
                              have q29 : (x27_1 : Int) < ((y220.length : Int) : Int) := of_decide_eq_true (by first | (with_reducible assumption) | assumption)
                              obtain ⟨hx29_0, hf29_0⟩ := Kd.R_celln 0 HO_10.out (x27_1 : Int) p29 q29
                              replace p29 := eq_true p29
                              replace q29 := eq_true q29
                              have HP37 := Kd.R_putg HO_10.out (x27_1 : Int) 0
                              go_wp2_with (first | ((with_reducible refine gate_store (t := 3) (p := 63) rfl ?_); refine store_event (t := 3) (p := 63) (v := ?vo_w38) (w1 := (wc.setCell ⟨go14, (x27_1 : Int).toNat, none⟩ (.int .i64 0))) ?hg ?ho ?hn ?hr ?_; (case ho => rfl); (case hg => rfl); (case hn => rfl); (case hr => first | (go_simp; done) | (go_simp; rfl)); intro w38 hw; have hg : wc.grownBy w38 (some go14) := (by rw [hw]; exact HP37.2); have hp_ : Kd.R (Kd.int .i64) 3 w38 w.heap.size (fun _ => True) (.slice (some ⟨go14, 0, none⟩) y220.length co10) y222 := (by rw [hw, Ny222.out]; exact HP37.1); clear HP37; have n0_ := Aside0.mk (hp_); have n1_ := Aside0.mk ((by rw [hw]; exact below_set (HB.out) GB14.out : Below w.heap.size w w38)); clear HO_10; clear HB; have HO_10 := n0_; have HB := n1_; clear n0_ n1_; clear hg hw hp_; have p223 : 0 ≤ (x27_1 : Int) := of_decide_eq_true (by first | (with_reducible assumption) | assumption); have q223 : x27_1 < (l2.length : Int) := of_decide_eq_true (by first | (with_reducible assumption) | assumption); obtain ⟨ad223, e223, hx223_0⟩ := Kd.at_int HR2.out x27_1 p223 q223; cases e223; replace hx223_0 := (HB.out.cell (World.block_lt_of_cell? w _ hx223_0)).trans hx223_0; replace p223 := eq_true p223; replace q223 := eq_true q223))
                              (try simp only [← hl10_1, ← hl10_14])
                              go_roundg kj14
                              case measure => have := HK1.out; have := HJ14.out; omega
                              case rel => exact ⟨(y222), (wrap64 (x27_1 + 1)), (by first | rfl | (simp; done) | (simp [*]; done)), H', ⟨by have := HK1.out; have := HJ14.out; omega⟩, ⟨by (try simp only [hl10_1]); (try simp only [hl10_14]); (with_reducible repeat (first | apply Kd.R_alloc | apply Kd.R_drewN | apply Kd.R_drew)); exact HO_10.out⟩, ⟨by repeat (first | (with_reducible first | exact HB.out | apply below_alloc | apply pw_below_drewN | apply below_drew1) | exact HB.out)⟩⟩
                          · rw [if_neg c30] at H
                            exact absurd H (by simp)
                        · rw [if_neg c28] at H
                          exact absurd H (by simp)
                      · rw [if_neg c27] at H
                        exact absurd H (by simp)
                    · replace c26 := Bool.eq_false_iff.mpr c26
                      subst c26
                      have H1 : (spec_hxNeed.l0 kj14 a0 a1 l2 a3 ji5 y220 (y217.length : Int) (wrap64 (x27_1 + 1))) = some r := by rw [if_neg (show ¬ (false = true) by decide)] at H; exact H
                      clear H
                      have H := H1
                      clear H1
                      have H' := Aside0.mk H
                      clear H
                      go_wp2
                      (try simp only [← hl10_1, ← hl10_14])
                      go_roundg kj14
                      case measure => have := HK1.out; have := HJ14.out; omega
                      case rel => exact ⟨(y220), (wrap64 (x27_1 + 1)), (by first | rfl | (simp; done) | (simp [*]; done)), H', ⟨by have := HK1.out; have := HJ14.out; omega⟩, ⟨by (try simp only [hl10_1]); (try simp only [hl10_14]); (with_reducible repeat (first | apply Kd.R_alloc | apply Kd.R_drewN | apply Kd.R_drew)); exact HO_10.out⟩, ⟨by repeat (first | (with_reducible first | exact HB.out | apply below_alloc | apply pw_below_drewN | apply below_drew1) | exact HB.out)⟩⟩
              · rw [if_neg c13] at H
                exact absurd H (by simp)
            · rw [if_neg c12] at H
              exact absurd H (by simp)
          · rw [if_neg c11] at H
            have c11b0 : decide (x27_1 < (y217.length : Int)) = false := decide_eq_false c11
            try (have c11b0e0 := c11b0; simp only [hl10_1] at c11b0e0)
            try (have c11b0e1 := c11b0; simp only [hl10_14] at c11b0e1)
            clear c11
            have H' := Aside0.mk H
            clear H
            go_wp2
            go_loopg [12] k1 (fun kq v12 w' => ∃ (x10_2 : List Int) (x12_2 : Int), v12 = .int .i64 x12_2 ∧ Aside0 (spec_hxNeed.l1 kq a0 a1 l2 a3 ji5 x10_2 x12_2 = some r) ∧ Aside0 (kq ≤ k1) ∧ Aside0 (Kd.R (Kd.int .i64) 3 w' w.heap.size (fun _ => True) (.slice Ao10 x10_1.length co10) x10_2) ∧ Aside0 (Below w.heap.size w w'))
            case atStart => exact ⟨(x10_1), (0), (by first | rfl | (simp; done) | (simp [*]; done)), H', ⟨Nat.le_refl _⟩, ⟨by (try simp only [hl10_1]); (with_reducible repeat (first | apply Kd.R_alloc | apply Kd.R_drewN | apply Kd.R_drew)); exact HO_10.out⟩, ⟨by repeat (first | (with_reducible first | exact HB.out | apply below_alloc | apply pw_below_drewN | apply below_drew1) | exact HB.out)⟩⟩
            case round =>
              clear H'
              try clear c1
              try clear p1
              try clear q1
              try clear hx1
              try clear c2
              try clear p2
              try clear q2
              try clear hx2
              try clear c3
              try clear p3
              try clear q3
              try clear hx3
              try clear c5
              try clear c6
              try clear c6b0
              try clear c6b1
              try clear p6
              try clear c7
              try clear c7b0
              try clear c7b1
              try clear c11
              try clear c11b0
              try clear c12
              try clear c12b0
              try clear c13
              try clear c13b0
              try clear p14
              try clear q14
              try clear hx14
              try clear hf14
              try clear c18
              try clear c18b0
              try clear c19
              try clear c19b0
              try clear c19b1
              try clear c20
              try clear c20b0
              try clear c20b1
              try clear c21
              try clear c21b0
              try clear c22
              try clear c22b0
              try clear c22b1
              try clear p22
              try clear q22
              try clear hx22
              try clear c23
              try clear c23b0
              try clear c23b1
              try clear c24
              try clear c24b0
              try clear c24b1
              try clear c25
              try clear c25b0
              try clear c25b1
              try clear c26
              try clear c27
              try clear c27b0
              try clear c28
              try clear c28b0
              try clear p29
              try clear q29
              try clear hx29
              try clear hf29
              try clear c30
              try clear c30b0
              try clear c31
              try clear c31b0
              try clear c31b1
              try clear p32
              try clear q32
              try clear hx32
              try clear hf32
              try clear hx14_0
              try clear hx221_0
              try clear hx223_0
              try clear hx29_0
              try clear hx32_0
              try clear p1
              try clear p14
              try clear p2
              try clear p22
              try clear p221
              try clear p223
              try clear p29
              try clear p32
              try clear p6
              try clear q1
              try clear q14
              try clear q2
              try clear q22
              try clear q221
              try clear q223
              try clear q29
              try clear q32
              obtain ⟨x10_2, x12_2, rfl, HA, HK2, HO_10, HB⟩ := hrel
              have hl10_2 := (Kd.R_reads' HO_10.out).1
              rw [hl10_2] at HO_10
              (try simp only [hl10_2])
              cases gk with
              | zero => exact absurd HA.out (by simp [spec_hxNeed.l1])
              | succ k2 =>
                have H := HA.out
                clear HA
                simp only [spec_hxNeed.l1] at H
                by_cases c39 : x12_2 < ji5
                · rw [if_pos c39] at H
                  have c39b0 : decide (x12_2 < ji5) = true := decide_eq_true c39
                  clear c39
                  have H' := Aside0.mk H
                  clear H
                  go_wp2
                  go_loopg [80] k2 (fun kq v80 w' => ∃ (x10_3 : List Int) (x80_3 : Int), v80 = .int .i64 x80_3 ∧ Aside0 (spec_hxNeed.l2 kq a0 a1 l2 a3 ji5 x10_3 x12_2 (x10_2.length : Int) x80_3 = some r) ∧ Aside0 (kq ≤ k2) ∧ Aside0 (Kd.R (Kd.int .i64) 3 w' w.heap.size (fun _ => True) (.slice Ao10 x10_2.length co10) x10_3) ∧ Aside0 (Below w.heap.size w w'))
                  case atStart => exact ⟨(x10_2), (0), (by first | rfl | (simp; done) | (simp [*]; done)), H', ⟨Nat.le_refl _⟩, ⟨by (try simp only [hl10_1]); (try simp only [hl10_2]); (with_reducible repeat (first | apply Kd.R_alloc | apply Kd.R_drewN | apply Kd.R_drew)); exact HO_10.out⟩, ⟨by repeat (first | (with_reducible first | exact HB.out | apply below_alloc | apply pw_below_drewN | apply below_drew1) | exact HB.out)⟩⟩
                  case round =>
                    clear H'
                    try clear c1
                    try clear p1
                    try clear q1
                    try clear hx1
                    try clear c2
                    try clear p2
                    try clear q2
                    try clear hx2
                    try clear c3
                    try clear p3
                    try clear q3
                    try clear hx3
                    try clear c5
                    try clear c6
                    try clear c6b0
                    try clear c6b1
                    try clear p6
                    try clear c7
                    try clear c7b0
                    try clear c7b1
                    try clear c11
                    try clear c11b0
                    try clear c12
                    try clear c12b0
                    try clear c13
                    try clear c13b0
                    try clear p14
                    try clear q14
                    try clear hx14
                    try clear hf14
                    try clear c18
                    try clear c18b0
                    try clear c19
                    try clear c19b0
                    try clear c19b1
                    try clear c20
                    try clear c20b0
                    try clear c20b1
                    try clear c21
                    try clear c21b0
                    try clear c22
                    try clear c22b0
                    try clear c22b1
                    try clear p22
                    try clear q22
                    try clear hx22
                    try clear c23
                    try clear c23b0
                    try clear c23b1
                    try clear c24
                    try clear c24b0
                    try clear c24b1
                    try clear c25
                    try clear c25b0
                    try clear c25b1
                    try clear c26
                    try clear c27
                    try clear c27b0
                    try clear c28
                    try clear c28b0
                    try clear p29
                    try clear q29
                    try clear hx29
                    try clear hf29
                    try clear c30
                    try clear c30b0
                    try clear c31
                    try clear c31b0
                    try clear c31b1
                    try clear p32
                    try clear q32
                    try clear hx32
                    try clear hf32
                    try clear c39
                    try clear c39b0
                    try clear hx14_0
                    try clear hx221_0
                    try clear hx223_0
                    try clear hx29_0
                    try clear hx32_0
                    try clear p1
                    try clear p14
                    try clear p2
                    try clear p22
                    try clear p221
                    try clear p223
                    try clear p29
                    try clear p3
                    try clear p32
                    try clear p6
                    try clear q1
                    try clear q14
                    try clear q2
                    try clear q22
                    try clear q221
                    try clear q223
                    try clear q29
                    try clear q3
                    try clear q32
                    obtain ⟨x10_3, x80_3, rfl, HA, HK3, HO_10, HB⟩ := hrel
                    have hl10_3 := (Kd.R_reads' HO_10.out).1
                    rw [hl10_3] at HO_10
                    (try simp only [hl10_3])
                    cases gk with
                    | zero => exact absurd HA.out (by simp [spec_hxNeed.l2])
                    | succ k3 =>
                      have H := HA.out
                      clear HA
                      simp only [spec_hxNeed.l2] at H
                      by_cases c40 : x80_3 < (x10_2.length : Int)
                      · rw [if_pos c40] at H
                        have c40b0 : decide (x80_3 < (x10_2.length : Int)) = true := decide_eq_true c40
                        try (have c40b0e0 := c40b0; simp only [hl10_1] at c40b0e0)
                        try (have c40b0e1 := c40b0; simp only [hl10_14] at c40b0e1)
                        try (have c40b0e2 := c40b0; simp only [hl10_2] at c40b0e2)
                        try (have c40b0e3 := c40b0; simp only [hl10_3] at c40b0e3)
                        clear c40
                        replace H := Option.bind_eq_some_iff.mp H
                        obtain ⟨t225, A410, H⟩ := H
                        replace H : (spec_hxNeed.l3 k3 a0 a1 l2 a3 ji5 x10_3 x12_2 x80_3 (x10_2.length : Int) x80_3 t225 (t225.length : Int) 0) = some r := H
                        have A41 := Aside0.mk A410
                        clear A410
                        have H' := Aside0.mk H
                        clear H
                        go_wp2_with (first | ((with_reducible refine gate_callee (f := 68) rfl ?_); refine goesL_ (some 86) rfl rfl Try.func68 (by kernel_rfl) rfl #[.int .i64 a0, .int .i64 a1, .int .i64 x80_3] rfl (by (try simp only [List.map_toArray, List.map_cons, List.map_nil]); first | done | rfl | (simp only [List.length_drop, List.length_take]; rfl)) ?_; (with_reducible refine (spec_hxAround.calls k3 a0 a1 x80_3 t225 _ A41.out).mono ?_); rintro e w42 ⟨v226, rfl, ho0, hb⟩; refine ⟨_, rfl, ?_⟩; have n0_ := Aside0.mk (Kd.R_elder' (by (with_reducible repeat (first | apply Kd.R_alloc | apply Kd.R_drewN | apply Kd.R_drew)); exact HO_10.out) (Kd.R_base ho0) hb); have n1_ := Aside0.mk (Kd.R_lower (Kd.R_new' ho0 (Kd.R_lt (by (with_reducible repeat (first | apply Kd.R_alloc | apply Kd.R_drewN | apply Kd.R_drew)); exact HO_10.out))) (below_size (by repeat (first | (with_reducible first | exact HB.out | apply below_alloc | apply pw_below_drewN | apply below_drew1) | exact HB.out)))); have n2_ := Aside0.mk (below_step (by repeat (first | (with_reducible first | exact HB.out | apply below_alloc | apply pw_below_drewN | apply below_drew1) | exact HB.out)) hb); clear HO_10; clear HB; have HO_10 := n0_; have HO227 := n1_; have HB := n2_; clear n0_ n1_ n2_; (try clear hb); (try clear hb2); (try clear hk); (try clear hi); (try clear ho0); obtain ⟨Ao43, co43, eo43⟩ := Kd.R_slice HO227.out; subst eo43))
                        go_loopg [88] k3 (fun kq v88 w' => ∃ (x10_4 : List Int) (x88_4 : Int), v88 = .int .i64 x88_4 ∧ Aside0 (spec_hxNeed.l3 kq a0 a1 l2 a3 ji5 x10_4 x12_2 x80_3 (x10_2.length : Int) x80_3 t225 (t225.length : Int) x88_4 = some r) ∧ Aside0 (kq ≤ k3) ∧ Aside0 (Kd.R (Kd.int .i64) 3 w' w.heap.size (fun k_ => some k_ ≠ ((.slice Ao43 t225.length co43) : Value).ownBlock) (.slice Ao10 x10_3.length co10) x10_4) ∧ Aside0 (Kd.R (Kd.int .i64) 3 w' w.heap.size (fun k_ => some k_ ≠ ((.slice Ao10 x10_3.length co10) : Value).ownBlock) (.slice Ao43 t225.length co43) t225) ∧ Aside0 (Below w.heap.size w w'))
                        case atStart => exact ⟨(x10_3), (0), (by first | rfl | (simp; done) | (simp [*]; done)), H', ⟨Nat.le_refl _⟩, ⟨by (try simp only [hl10_1]); (try simp only [hl10_2]); (try simp only [hl10_3]); (with_reducible repeat (first | apply Kd.R_alloc | apply Kd.R_drewN | apply Kd.R_drew)); exact Kd.R_mono HO_10.out (fun _ hk => hk.2)⟩, ⟨by (try simp only [hl10_1]); (try simp only [hl10_2]); (try simp only [hl10_3]); (with_reducible repeat (first | apply Kd.R_alloc | apply Kd.R_drewN | apply Kd.R_drew)); exact Kd.R_mono HO227.out (fun _ hk => hk.2)⟩, ⟨by repeat (first | (with_reducible first | exact HB.out | apply below_alloc | apply pw_below_drewN | apply below_drew1) | exact HB.out)⟩⟩
                        case round =>
                          clear H'
                          try clear c1
                          try clear p1
                          try clear q1
                          try clear hx1
                          try clear c2
                          try clear p2
                          try clear q2
                          try clear hx2
                          try clear c3
                          try clear p3
                          try clear q3
                          try clear hx3
                          try clear c4
                          try clear c5
                          try clear c6
                          try clear c6b0
                          try clear c6b1
                          try clear p6
                          try clear c7
                          try clear c7b0
                          try clear c7b1
                          try clear c11
                          try clear c11b0
                          try clear c12
                          try clear c12b0
                          try clear c13
                          try clear c13b0
                          try clear p14
                          try clear q14
                          try clear hx14
                          try clear hf14
                          try clear c18
                          try clear c18b0
                          try clear c19
                          try clear c19b0
                          try clear c19b1
                          try clear c20
                          try clear c20b0
                          try clear c20b1
                          try clear c21
                          try clear c21b0
                          try clear c22
                          try clear c22b0
                          try clear c22b1
                          try clear p22
                          try clear q22
                          try clear hx22
                          try clear c23
                          try clear c23b0
                          try clear c23b1
                          try clear c24
                          try clear c24b0
                          try clear c24b1
                          try clear c25
                          try clear c25b0
                          try clear c25b1
                          try clear c26
                          try clear c27
                          try clear c27b0
                          try clear c28
                          try clear c28b0
                          try clear p29
                          try clear q29
                          try clear hx29
                          try clear hf29
                          try clear c30
                          try clear c30b0
                          try clear c31
                          try clear c31b0
                          try clear c31b1
                          try clear p32
                          try clear q32
                          try clear hx32
                          try clear hf32
                          try clear c39
                          try clear c39b0
                          try clear c40
                          try clear c40b0
                          try clear hx14_0
                          try clear hx221_0
                          try clear hx223_0
                          try clear hx29_0
                          try clear hx32_0
                          try clear p1
                          try clear p14
                          try clear p2
                          try clear p22
                          try clear p221
                          try clear p223
                          try clear p29
                          try clear p3
                          try clear p32
                          try clear p6
                          try clear q1
                          try clear q14
                          try clear q2
                          try clear q22
                          try clear q221
                          try clear q223
                          try clear q29
                          try clear q3
                          try clear q32
                          obtain ⟨x10_4, x88_4, rfl, HA, HK4, HO_10, HO_86, HB⟩ := hrel
                          have hl10_4 := (Kd.R_reads' HO_10.out).1
                          rw [hl10_4] at HO_10
                          (try simp only [hl10_4])
                          (try simp only [hl10_4] at HO_86)
                          cases gk with
                          | zero => exact absurd HA.out (by simp [spec_hxNeed.l3])
                          | succ k4 =>
                            have H := HA.out
                            clear HA
                            simp only [spec_hxNeed.l3] at H
                            by_cases c44 : x88_4 < (t225.length : Int)
                            · rw [if_pos c44] at H
                              have c44b0 : decide (x88_4 < (t225.length : Int)) = true := decide_eq_true c44
                              try (have c44b0e0 := c44b0; simp only [hl10_1] at c44b0e0)
                              try (have c44b0e1 := c44b0; simp only [hl10_14] at c44b0e1)
                              try (have c44b0e2 := c44b0; simp only [hl10_2] at c44b0e2)
                              try (have c44b0e3 := c44b0; simp only [hl10_3] at c44b0e3)
                              try (have c44b0e4 := c44b0; simp only [hl10_4] at c44b0e4)
                              clear c44
                              by_cases c45 : 0 ≤ x88_4
                              · rw [if_pos c45] at H
                                have c45b0 : decide (0 ≤ x88_4) = true := decide_eq_true c45
                                clear c45
                                by_cases c46 : x88_4 < (t225.length : Int)
                                · rw [if_pos c46] at H
                                  have c46b0 : decide (x88_4 < (t225.length : Int)) = true := decide_eq_true c46
                                  try (have c46b0e0 := c46b0; simp only [hl10_1] at c46b0e0)
                                  try (have c46b0e1 := c46b0; simp only [hl10_14] at c46b0e1)
                                  try (have c46b0e2 := c46b0; simp only [hl10_2] at c46b0e2)
                                  try (have c46b0e3 := c46b0; simp only [hl10_3] at c46b0e3)
                                  try (have c46b0e4 := c46b0; simp only [hl10_4] at c46b0e4)
                                  clear c46
                                  by_cases c47 : 0 ≤ (rd t225 x88_4)
                                  · rw [if_pos c47] at H
                                    have c47b0 : decide (0 ≤ (rd t225 x88_4)) = true := decide_eq_true c47
                                    clear c47
                                    by_cases c48 : (rd t225 x88_4) < (l2.length : Int)
                                    · rw [if_pos c48] at H
                                      have c48b0 : decide ((rd t225 x88_4) < (l2.length : Int)) = true := decide_eq_true c48
                                      try (have c48b0e0 := c48b0; simp only [hl10_1] at c48b0e0)
                                      try (have c48b0e1 := c48b0; simp only [hl10_14] at c48b0e1)
                                      try (have c48b0e2 := c48b0; simp only [hl10_2] at c48b0e2)
                                      try (have c48b0e3 := c48b0; simp only [hl10_3] at c48b0e3)
                                      try (have c48b0e4 := c48b0; simp only [hl10_4] at c48b0e4)
                                      clear c48
                                      by_cases c49 : (rd l2 (rd t225 x88_4)) = (wrap64 (3 - a3))
                                      · rw [if_pos c49] at H
                                        have c49b0 : ((rd l2 (rd t225 x88_4)) == (wrap64 (3 - a3))) = true := beq_iff_eq.mpr c49
                                        have c49b1 : ((rd l2 (rd t225 x88_4)) != (wrap64 (3 - a3))) = false := bne_eq_false_iff_eq.mpr c49
                                        clear c49
                                        have H' := Aside0.mk H
                                        clear H
                                        have p228 : 0 ≤ (x88_4 : Int) := of_decide_eq_true (by first | (with_reducible assumption) | assumption)
                                        have q228 : x88_4 < (t225.length : Int) := of_decide_eq_true (by first | (with_reducible assumption) | assumption)
                                        obtain ⟨ad228, e228, hx228_0⟩ := Kd.at_int (Kd.R_reads' HO_86.out).2.2 x88_4 p228 q228
                                        cases e228
                                        replace p228 := eq_true p228
                                        replace q228 := eq_true q228
                                        have p229 : 0 ≤ ((rd t225 x88_4) : Int) := of_decide_eq_true (by first | (with_reducible assumption) | assumption)
                                        have q229 : (rd t225 x88_4) < (l2.length : Int) := of_decide_eq_true (by first | (with_reducible assumption) | assumption)
                                        obtain ⟨ad229, e229, hx229_0⟩ := Kd.at_int HR2.out (rd t225 x88_4) p229 q229
                                        cases e229
                                        replace hx229_0 := (HB.out.cell (World.block_lt_of_cell? w _ hx229_0)).trans hx229_0
                                        replace p229 := eq_true p229
                                        replace q229 := eq_true q229
                                        go_wp2
                                        (try simp only [← hl10_4])
                                        go_roundg k4
                                        case measure => have := HK1.out; have := HK2.out; have := HK3.out; have := HK4.out; omega
                                        case rel => exact ⟨(x10_4), (wrap64 (x88_4 + 1)), (by first | rfl | (simp; done) | (simp [*]; done)), H', ⟨by have := HK1.out; have := HK2.out; have := HK3.out; have := HK4.out; omega⟩, ⟨by (try simp only [hl10_1]); (try simp only [hl10_2]); (try simp only [hl10_3]); (try simp only [hl10_4]); (with_reducible repeat (first | apply Kd.R_alloc | apply Kd.R_drewN | apply Kd.R_drew)); exact HO_10.out⟩, ⟨by (try simp only [hl10_1]); (try simp only [hl10_2]); (try simp only [hl10_3]); (try simp only [hl10_4]); (with_reducible repeat (first | apply Kd.R_alloc | apply Kd.R_drewN | apply Kd.R_drew)); exact HO_86.out⟩, ⟨by repeat (first | (with_reducible first | exact HB.out | apply below_alloc | apply pw_below_drewN | apply below_drew1) | exact HB.out)⟩⟩
                                      · rw [if_neg c49] at H
                                        have c49b0 : ((rd l2 (rd t225 x88_4)) == (wrap64 (3 - a3))) = false := beq_eq_false_iff_ne.mpr c49
                                        have c49b1 : ((rd l2 (rd t225 x88_4)) != (wrap64 (3 - a3))) = true := bne_iff_ne.mpr c49
                                        by_cases c50 : 0 ≤ x80_3
                                        · rw [if_pos c50] at H
                                          have c50b0 : decide (0 ≤ x80_3) = true := decide_eq_true c50
                                          clear c50
                                          by_cases c51 : x80_3 < (x10_4.length : Int)
                                          · rw [if_pos c51] at H
                                            have c51b0 : decide (x80_3 < (x10_4.length : Int)) = true := decide_eq_true c51
                                            try (have c51b0e0 := c51b0; simp only [hl10_1] at c51b0e0)
                                            try (have c51b0e1 := c51b0; simp only [hl10_14] at c51b0e1)
                                            try (have c51b0e2 := c51b0; simp only [hl10_2] at c51b0e2)
                                            try (have c51b0e3 := c51b0; simp only [hl10_3] at c51b0e3)
                                            try (have c51b0e4 := c51b0; simp only [hl10_4] at c51b0e4)
                                            clear c51
                                            by_cases c52 : (rd l2 (rd t225 x88_4)) = 0
                                            · rw [if_pos c52] at H
                                              have c52b0 : ((rd l2 (rd t225 x88_4)) == 0) = true := beq_iff_eq.mpr c52
                                              have c52b1 : ((rd l2 (rd t225 x88_4)) != 0) = false := bne_eq_false_iff_eq.mpr c52
                                              clear c52
                                              by_cases c53 : (rd t225 x88_4) < (x10_4.length : Int)
                                              · rw [if_pos c53] at H
                                                have c53b0 : decide ((rd t225 x88_4) < (x10_4.length : Int)) = true := decide_eq_true c53
                                                try (have c53b0e0 := c53b0; simp only [hl10_1] at c53b0e0)
                                                try (have c53b0e1 := c53b0; simp only [hl10_14] at c53b0e1)
                                                try (have c53b0e2 := c53b0; simp only [hl10_2] at c53b0e2)
                                                try (have c53b0e3 := c53b0; simp only [hl10_3] at c53b0e3)
                                                try (have c53b0e4 := c53b0; simp only [hl10_4] at c53b0e4)
                                                clear c53
                                                replace H := Option.bind_eq_some_iff.mp H
                                                obtain ⟨t233, A540, H⟩ := H
                                                replace H : (spec_hxNeed.l3 k4 a0 a1 l2 a3 ji5 (x10_4.set ((rd t225 x88_4) : Int).toNat t233) x12_2 x80_3 (x10_2.length : Int) x80_3 t225 (t225.length : Int) (wrap64 (x88_4 + 1))) = some r := H
                                                have A54 := Aside0.mk A540
                                                clear A540
                                                obtain ⟨y234, hy234⟩ : ∃ y_ : List Int, y_ = (x10_4.set ((rd t225 x88_4) : Int).toNat t233) := ⟨_, rfl⟩
                                                replace H : (spec_hxNeed.l3 k4 a0 a1 l2 a3 ji5 y234 x12_2 x80_3 (x10_2.length : Int) x80_3 t225 (t225.length : Int) (wrap64 (x88_4 + 1))) = some r := by first | (rw [hy234]; with_reducible exact H) | (have H2_ := (Option.bind_some _ _).symm.trans H; rw [hy234]; with_reducible exact H2_) | (have H2_ := (Option.bind_some _ _).symm.trans H; with_reducible exact H2_) | with_reducible exact H | (rw [hy234]; exact H) | exact H
                                                have Ny234 := Aside0.mk hy234
                                                clear hy234
                                                have H' := Aside0.mk H
                                                clear H
                                                have p228 : 0 ≤ (x88_4 : Int) := of_decide_eq_true (by first | (with_reducible assumption) | assumption)
                                                have q228 : x88_4 < (t225.length : Int) := of_decide_eq_true (by first | (with_reducible assumption) | assumption)
                                                obtain ⟨ad228, e228, hx228_0⟩ := Kd.at_int (Kd.R_reads' HO_86.out).2.2 x88_4 p228 q228
                                                cases e228
                                                replace p228 := eq_true p228
                                                replace q228 := eq_true q228
                                                have p229 : 0 ≤ ((rd t225 x88_4) : Int) := of_decide_eq_true (by first | (with_reducible assumption) | assumption)
                                                have q229 : (rd t225 x88_4) < (l2.length : Int) := of_decide_eq_true (by first | (with_reducible assumption) | assumption)
                                                obtain ⟨ad229, e229, hx229_0⟩ := Kd.at_int HR2.out (rd t225 x88_4) p229 q229
                                                cases e229
                                                replace hx229_0 := (HB.out.cell (World.block_lt_of_cell? w _ hx229_0)).trans hx229_0
                                                replace p229 := eq_true p229
                                                replace q229 := eq_true q229
                                                have p230 : 0 ≤ (x80_3 : Int) := of_decide_eq_true (by first | (with_reducible assumption) | assumption)
                                                have q230 : x80_3 < (x10_4.length : Int) := of_decide_eq_true (by first | (with_reducible assumption) | assumption)
                                                obtain ⟨ad230, e230, hx230_0⟩ := Kd.at_int (Kd.R_reads' HO_10.out).2.2 x80_3 p230 q230
                                                cases e230
                                                replace p230 := eq_true p230
                                                replace q230 := eq_true q230
                                                have p231 : 0 ≤ ((rd t225 x88_4) : Int) := of_decide_eq_true (by first | (with_reducible assumption) | assumption)
                                                have q231 : (rd t225 x88_4) < (l2.length : Int) := of_decide_eq_true (by first | (with_reducible assumption) | assumption)
                                                obtain ⟨ad231, e231, hx231_0⟩ := Kd.at_int HR2.out (rd t225 x88_4) p231 q231
                                                obtain rfl : ad229 = ad231 := (by injection e231)
                                                replace hx231_0 := (HB.out.cell (World.block_lt_of_cell? w _ hx231_0)).trans hx231_0
                                                replace p231 := eq_true p231
                                                replace q231 := eq_true q231
                                                have p232 : 0 ≤ ((rd t225 x88_4) : Int) := of_decide_eq_true (by first | (with_reducible assumption) | assumption)
                                                have q232 : (rd t225 x88_4) < (x10_4.length : Int) := of_decide_eq_true (by first | (with_reducible assumption) | assumption)
                                                obtain ⟨ad232, e232, hx232_0⟩ := Kd.at_int (Kd.R_reads' HO_10.out).2.2 (rd t225 x88_4) p232 q232
                                                obtain rfl : ad230 = ad232 := (by injection e232)
                                                replace p232 := eq_true p232
                                                replace q232 := eq_true q232
                                                go_wp2_with (first | ((with_reducible refine gate_callee (f := 78) rfl ?_); refine goesL_ (some 117) rfl rfl Try.func78 (by kernel_rfl) rfl #[.int .i64 (rd x10_4 (rd t225 x88_4)), .int .i64 (wrap64 ((rd x10_4 x80_3) + 1))] rfl (by (try simp only [List.map_toArray, List.map_cons, List.map_nil]); first | done | rfl | (simp only [List.length_drop, List.length_take]; rfl)) ?_; (with_reducible refine (spec_l1Least.calls (rd x10_4 (rd t225 x88_4)) (wrap64 ((rd x10_4 x80_3) + 1)) t233 _ A54.out).mono ?_); rintro e w' ⟨rfl, ⟨nd, rfl⟩⟩; refine ⟨_, rfl, ?_⟩; (try (rw [drewN_self wr]; generalize hq_ : World.drewN wr _ = wr; have n0_ : Aside0 (Kd.R (Kd.int .i64) 3 wr w.heap.size (fun k_ => some k_ ≠ (.slice (some ad228) t225.length co43 : Value).ownBlock) (.slice (some ad230) x10_4.length co10) x10_4) := ⟨by rw [← hq_]; exact (by (with_reducible repeat (first | apply Kd.R_alloc | apply Kd.R_drewN | apply Kd.R_drew)); exact HO_10.out)⟩; have n1_ : Aside0 (Kd.R (Kd.int .i64) 3 wr w.heap.size (fun k_ => some k_ ≠ (.slice (some ad230) x10_4.length co10 : Value).ownBlock) (.slice (some ad228) t225.length co43) t225) := ⟨by rw [← hq_]; exact (by (with_reducible repeat (first | apply Kd.R_alloc | apply Kd.R_drewN | apply Kd.R_drew)); exact HO_86.out)⟩; have n2_ : Aside0 (Below w.heap.size w wr) := ⟨by rw [← hq_]; exact (by repeat (first | (with_reducible first | exact HB.out | apply below_alloc | apply pw_below_drewN | apply below_drew1) | exact HB.out))⟩; clear HO_10 HO_86 HB hq_; have HO_10 := n0_; have HO_86 := n1_; have HB := n2_; clear n0_ n1_ n2_)); have p55 : 0 ≤ ((rd t225 x88_4) : Int) := of_decide_eq_true (by first | (with_reducible assumption) | assumption); have q55 : ((rd t225 x88_4) : Int) < ((x10_4.length : Int) : Int) := of_decide_eq_true (by first | (with_reducible assumption) | assumption); obtain ⟨go55, co55, eo55, gb55, gl55, cl55, HG55⟩ := Kd.R_form HO_10.out (by omega); (first | cases eo55 | (injection eo55 with ea_ en_ ec_; (first | subst ea_ | (injection ea_ with ea_; subst ea_)); subst ec_; clear en_)); have GB55 := Aside0.mk gb55; have GG55 := Aside0.mk HG55; clear gb55 gl55 HG55; (first | simp only [add_plain] at hx230_0 | skip); (first | simp only [add_plain] at hx232_0 | skip); obtain ⟨hx55_0, hf55_0⟩ := Kd.R_celln 0 HO_10.out ((rd t225 x88_4) : Int) p55 q55; replace p55 := eq_true p55; replace q55 := eq_true q55; obtain ⟨hy56_, hz56_⟩ := Kd.R_celln 0 HO_10.out ((rd t225 x88_4) : Int) (of_decide_eq_true (by first | (with_reducible assumption) | assumption)) (of_decide_eq_true (by first | (with_reducible assumption) | assumption)); have HP56 := Kd.R_putg HO_10.out ((rd t225 x88_4) : Int) t233) | ((with_reducible refine gate_store (t := 3) (p := 118) rfl ?_); refine store_event (t := 3) (p := 118) (v := ?vo_w57) (w1 := (wr.setCell ⟨go55, ((rd t225 x88_4) : Int).toNat, none⟩ (.int .i64 t233))) ?hg ?ho ?hn ?hr ?_; (case ho => rfl); (case hg => rfl); (case hn => rfl); (case hr => first | (go_simp; done) | (go_simp; rfl)); intro w57 hw; have hg : wr.grownBy w57 (some go55) := (by rw [hw]; exact HP56.2); have hp_ : Kd.R (Kd.int .i64) 3 w57 w.heap.size (fun k_ => some k_ ≠ (.slice (some ad228) t225.length co43 : Value).ownBlock) (.slice (some ⟨go55, 0, none⟩) x10_4.length co10) y234 := (by rw [hw, Ny234.out]; exact HP56.1); clear HP56; have n0_ := Aside0.mk (hp_); have n1_ := Aside0.mk (Kd.R_after (v := (.slice (some ⟨go55, 0, none⟩) x10_4.length co10)) (v1 := (.slice (some ⟨go55, 0, none⟩) x10_4.length co10)) (ok := (fun _ => True)) (by (with_reducible repeat (first | apply Kd.R_alloc | apply Kd.R_drewN | apply Kd.R_drew)); exact Kd.R_mono HO_86.out (fun _ hk => ⟨trivial, hk⟩)) hg (.inl rfl)); have n2_ := Aside0.mk ((by rw [hw]; exact below_set (HB.out) GB55.out : Below w.heap.size w w57)); clear HO_10; clear HO_86; clear HB; have HO_10 := n0_; have HO_86 := n1_; have HB := n2_; clear n0_ n1_ n2_; clear hg hw hp_))
                                                (try simp only [← hl10_4])
                                                go_roundg k4
                                                case measure => have := HK1.out; have := HK2.out; have := HK3.out; have := HK4.out; omega
                                                case rel => exact ⟨(y234), (wrap64 (x88_4 + 1)), (by first | rfl | (simp; done) | (simp [*]; done)), H', ⟨by have := HK1.out; have := HK2.out; have := HK3.out; have := HK4.out; omega⟩, ⟨by (try simp only [hl10_1]); (try simp only [hl10_2]); (try simp only [hl10_3]); (try simp only [hl10_4]); (with_reducible repeat (first | apply Kd.R_alloc | apply Kd.R_drewN | apply Kd.R_drew)); exact HO_10.out⟩, ⟨by (try simp only [hl10_1]); (try simp only [hl10_2]); (try simp only [hl10_3]); (try simp only [hl10_4]); (with_reducible repeat (first | apply Kd.R_alloc | apply Kd.R_drewN | apply Kd.R_drew)); exact Kd.R_mono HO_86.out (fun _ hk => hk.2)⟩, ⟨by repeat (first | (with_reducible first | exact HB.out | apply below_alloc | apply pw_below_drewN | apply below_drew1) | exact HB.out)⟩⟩
                                              · rw [if_neg c53] at H
                                                exact absurd H (by simp)
                                            · rw [if_neg c52] at H
                                              have c52b0 : ((rd l2 (rd t225 x88_4)) == 0) = false := beq_eq_false_iff_ne.mpr c52
                                              have c52b1 : ((rd l2 (rd t225 x88_4)) != 0) = true := bne_iff_ne.mpr c52
                                              by_cases c58 : (rd t225 x88_4) < (x10_4.length : Int)
                                              · rw [if_pos c58] at H
                                                have c58b0 : decide ((rd t225 x88_4) < (x10_4.length : Int)) = true := decide_eq_true c58
                                                try (have c58b0e0 := c58b0; simp only [hl10_1] at c58b0e0)
                                                try (have c58b0e1 := c58b0; simp only [hl10_14] at c58b0e1)
                                                try (have c58b0e2 := c58b0; simp only [hl10_2] at c58b0e2)
                                                try (have c58b0e3 := c58b0; simp only [hl10_3] at c58b0e3)
                                                try (have c58b0e4 := c58b0; simp only [hl10_4] at c58b0e4)
                                                clear c58
                                                replace H := Option.bind_eq_some_iff.mp H
                                                obtain ⟨t236, A590, H⟩ := H
                                                replace H : (spec_hxNeed.l3 k4 a0 a1 l2 a3 ji5 (x10_4.set ((rd t225 x88_4) : Int).toNat t236) x12_2 x80_3 (x10_2.length : Int) x80_3 t225 (t225.length : Int) (wrap64 (x88_4 + 1))) = some r := H
                                                have A59 := Aside0.mk A590
                                                clear A590
                                                obtain ⟨y237, hy237⟩ : ∃ y_ : List Int, y_ = (x10_4.set ((rd t225 x88_4) : Int).toNat t236) := ⟨_, rfl⟩
                                                replace H : (spec_hxNeed.l3 k4 a0 a1 l2 a3 ji5 y237 x12_2 x80_3 (x10_2.length : Int) x80_3 t225 (t225.length : Int) (wrap64 (x88_4 + 1))) = some r := by first | (rw [hy237]; with_reducible exact H) | (have H2_ := (Option.bind_some _ _).symm.trans H; rw [hy237]; with_reducible exact H2_) | (have H2_ := (Option.bind_some _ _).symm.trans H; with_reducible exact H2_) | with_reducible exact H | (rw [hy237]; exact H) | exact H
                                                have Ny237 := Aside0.mk hy237
                                                clear hy237
                                                have H' := Aside0.mk H
                                                clear H
                                                have p228 : 0 ≤ (x88_4 : Int) := of_decide_eq_true (by first | (with_reducible assumption) | assumption)
                                                have q228 : x88_4 < (t225.length : Int) := of_decide_eq_true (by first | (with_reducible assumption) | assumption)
                                                obtain ⟨ad228, e228, hx228_0⟩ := Kd.at_int (Kd.R_reads' HO_86.out).2.2 x88_4 p228 q228
                                                cases e228
                                                replace p228 := eq_true p228
                                                replace q228 := eq_true q228
                                                have p229 : 0 ≤ ((rd t225 x88_4) : Int) := of_decide_eq_true (by first | (with_reducible assumption) | assumption)
                                                have q229 : (rd t225 x88_4) < (l2.length : Int) := of_decide_eq_true (by first | (with_reducible assumption) | assumption)
                                                obtain ⟨ad229, e229, hx229_0⟩ := Kd.at_int HR2.out (rd t225 x88_4) p229 q229
                                                cases e229
                                                replace hx229_0 := (HB.out.cell (World.block_lt_of_cell? w _ hx229_0)).trans hx229_0
                                                replace p229 := eq_true p229
                                                replace q229 := eq_true q229
                                                have p230 : 0 ≤ (x80_3 : Int) := of_decide_eq_true (by first | (with_reducible assumption) | assumption)
                                                have q230 : x80_3 < (x10_4.length : Int) := of_decide_eq_true (by first | (with_reducible assumption) | assumption)
                                                obtain ⟨ad230, e230, hx230_0⟩ := Kd.at_int (Kd.R_reads' HO_10.out).2.2 x80_3 p230 q230
                                                cases e230
                                                replace p230 := eq_true p230
                                                replace q230 := eq_true q230
                                                have p231 : 0 ≤ ((rd t225 x88_4) : Int) := of_decide_eq_true (by first | (with_reducible assumption) | assumption)
                                                have q231 : (rd t225 x88_4) < (l2.length : Int) := of_decide_eq_true (by first | (with_reducible assumption) | assumption)
                                                obtain ⟨ad231, e231, hx231_0⟩ := Kd.at_int HR2.out (rd t225 x88_4) p231 q231
                                                obtain rfl : ad229 = ad231 := (by injection e231)
                                                replace hx231_0 := (HB.out.cell (World.block_lt_of_cell? w _ hx231_0)).trans hx231_0
                                                replace p231 := eq_true p231
                                                replace q231 := eq_true q231
                                                have p235 : 0 ≤ ((rd t225 x88_4) : Int) := of_decide_eq_true (by first | (with_reducible assumption) | assumption)
                                                have q235 : (rd t225 x88_4) < (x10_4.length : Int) := of_decide_eq_true (by first | (with_reducible assumption) | assumption)
                                                obtain ⟨ad235, e235, hx235_0⟩ := Kd.at_int (Kd.R_reads' HO_10.out).2.2 (rd t225 x88_4) p235 q235
                                                obtain rfl : ad230 = ad235 := (by injection e235)
                                                replace p235 := eq_true p235
                                                replace q235 := eq_true q235
                                                go_wp2_with (first | ((with_reducible refine gate_callee (f := 78) rfl ?_); refine goesL_ (some 117) rfl rfl Try.func78 (by kernel_rfl) rfl #[.int .i64 (rd x10_4 (rd t225 x88_4)), .int .i64 (rd x10_4 x80_3)] rfl (by (try simp only [List.map_toArray, List.map_cons, List.map_nil]); first | done | rfl | (simp only [List.length_drop, List.length_take]; rfl)) ?_; (with_reducible refine (spec_l1Least.calls (rd x10_4 (rd t225 x88_4)) (rd x10_4 x80_3) t236 _ A59.out).mono ?_); rintro e w' ⟨rfl, ⟨nd, rfl⟩⟩; refine ⟨_, rfl, ?_⟩; (try (rw [drewN_self wr]; generalize hq_ : World.drewN wr _ = wr; have n0_ : Aside0 (Kd.R (Kd.int .i64) 3 wr w.heap.size (fun k_ => some k_ ≠ (.slice (some ad228) t225.length co43 : Value).ownBlock) (.slice (some ad230) x10_4.length co10) x10_4) := ⟨by rw [← hq_]; exact (by (with_reducible repeat (first | apply Kd.R_alloc | apply Kd.R_drewN | apply Kd.R_drew)); exact HO_10.out)⟩; have n1_ : Aside0 (Kd.R (Kd.int .i64) 3 wr w.heap.size (fun k_ => some k_ ≠ (.slice (some ad230) x10_4.length co10 : Value).ownBlock) (.slice (some ad228) t225.length co43) t225) := ⟨by rw [← hq_]; exact (by (with_reducible repeat (first | apply Kd.R_alloc | apply Kd.R_drewN | apply Kd.R_drew)); exact HO_86.out)⟩; have n2_ : Aside0 (Below w.heap.size w wr) := ⟨by rw [← hq_]; exact (by repeat (first | (with_reducible first | exact HB.out | apply below_alloc | apply pw_below_drewN | apply below_drew1) | exact HB.out))⟩; clear HO_10 HO_86 HB hq_; have HO_10 := n0_; have HO_86 := n1_; have HB := n2_; clear n0_ n1_ n2_)); have p60 : 0 ≤ ((rd t225 x88_4) : Int) := of_decide_eq_true (by first | (with_reducible assumption) | assumption); have q60 : ((rd t225 x88_4) : Int) < ((x10_4.length : Int) : Int) := of_decide_eq_true (by first | (with_reducible assumption) | assumption); obtain ⟨go60, co60, eo60, gb60, gl60, cl60, HG60⟩ := Kd.R_form HO_10.out (by omega); (first | cases eo60 | (injection eo60 with ea_ en_ ec_; (first | subst ea_ | (injection ea_ with ea_; subst ea_)); subst ec_; clear en_)); have GB60 := Aside0.mk gb60; have GG60 := Aside0.mk HG60; clear gb60 gl60 HG60; (first | simp only [add_plain] at hx230_0 | skip); (first | simp only [add_plain] at hx235_0 | skip); obtain ⟨hx60_0, hf60_0⟩ := Kd.R_celln 0 HO_10.out ((rd t225 x88_4) : Int) p60 q60; replace p60 := eq_true p60; replace q60 := eq_true q60; obtain ⟨hy61_, hz61_⟩ := Kd.R_celln 0 HO_10.out ((rd t225 x88_4) : Int) (of_decide_eq_true (by first | (with_reducible assumption) | assumption)) (of_decide_eq_true (by first | (with_reducible assumption) | assumption)); have HP61 := Kd.R_putg HO_10.out ((rd t225 x88_4) : Int) t236) | ((with_reducible refine gate_store (t := 3) (p := 118) rfl ?_); refine store_event (t := 3) (p := 118) (v := ?vo_w62) (w1 := (wr.setCell ⟨go60, ((rd t225 x88_4) : Int).toNat, none⟩ (.int .i64 t236))) ?hg ?ho ?hn ?hr ?_; (case ho => rfl); (case hg => rfl); (case hn => rfl); (case hr => first | (go_simp; done) | (go_simp; rfl)); intro w62 hw; have hg : wr.grownBy w62 (some go60) := (by rw [hw]; exact HP61.2); have hp_ : Kd.R (Kd.int .i64) 3 w62 w.heap.size (fun k_ => some k_ ≠ (.slice (some ad228) t225.length co43 : Value).ownBlock) (.slice (some ⟨go60, 0, none⟩) x10_4.length co10) y237 := (by rw [hw, Ny237.out]; exact HP61.1); clear HP61; have n0_ := Aside0.mk (hp_); have n1_ := Aside0.mk (Kd.R_after (v := (.slice (some ⟨go60, 0, none⟩) x10_4.length co10)) (v1 := (.slice (some ⟨go60, 0, none⟩) x10_4.length co10)) (ok := (fun _ => True)) (by (with_reducible repeat (first | apply Kd.R_alloc | apply Kd.R_drewN | apply Kd.R_drew)); exact Kd.R_mono HO_86.out (fun _ hk => ⟨trivial, hk⟩)) hg (.inl rfl)); have n2_ := Aside0.mk ((by rw [hw]; exact below_set (HB.out) GB60.out : Below w.heap.size w w62)); clear HO_10; clear HO_86; clear HB; have HO_10 := n0_; have HO_86 := n1_; have HB := n2_; clear n0_ n1_ n2_; clear hg hw hp_))
                                                (try simp only [← hl10_4])
                                                go_roundg k4
                                                case measure => have := HK1.out; have := HK2.out; have := HK3.out; have := HK4.out; omega
                                                case rel => exact ⟨(y237), (wrap64 (x88_4 + 1)), (by first | rfl | (simp; done) | (simp [*]; done)), H', ⟨by have := HK1.out; have := HK2.out; have := HK3.out; have := HK4.out; omega⟩, ⟨by (try simp only [hl10_1]); (try simp only [hl10_2]); (try simp only [hl10_3]); (try simp only [hl10_4]); (with_reducible repeat (first | apply Kd.R_alloc | apply Kd.R_drewN | apply Kd.R_drew)); exact HO_10.out⟩, ⟨by (try simp only [hl10_1]); (try simp only [hl10_2]); (try simp only [hl10_3]); (try simp only [hl10_4]); (with_reducible repeat (first | apply Kd.R_alloc | apply Kd.R_drewN | apply Kd.R_drew)); exact Kd.R_mono HO_86.out (fun _ hk => hk.2)⟩, ⟨by repeat (first | (with_reducible first | exact HB.out | apply below_alloc | apply pw_below_drewN | apply below_drew1) | exact HB.out)⟩⟩
                                              · rw [if_neg c58] at H
                                                exact absurd H (by simp)
                                          · rw [if_neg c51] at H
                                            exact absurd H (by simp)
                                        · rw [if_neg c50] at H
                                          exact absurd H (by simp)
                                    · rw [if_neg c48] at H
                                      exact absurd H (by simp)
                                  · rw [if_neg c47] at H
                                    exact absurd H (by simp)
                                · rw [if_neg c46] at H
                                  exact absurd H (by simp)
                              · rw [if_neg c45] at H
                                exact absurd H (by simp)
                            · rw [if_neg c44] at H
                              have c44b0 : decide (x88_4 < (t225.length : Int)) = false := decide_eq_false c44
                              try (have c44b0e0 := c44b0; simp only [hl10_1] at c44b0e0)
                              try (have c44b0e1 := c44b0; simp only [hl10_14] at c44b0e1)
                              try (have c44b0e2 := c44b0; simp only [hl10_2] at c44b0e2)
                              try (have c44b0e3 := c44b0; simp only [hl10_3] at c44b0e3)
                              try (have c44b0e4 := c44b0; simp only [hl10_4] at c44b0e4)
                              clear c44
                              have H' := Aside0.mk H
                              clear H
                              go_wp2
                              (try simp only [← hl10_3, ← hl10_4])
                              go_roundg k4
                              case measure => have := HK1.out; have := HK2.out; have := HK3.out; have := HK4.out; omega
                              case rel => exact ⟨(x10_4), (wrap64 (x80_3 + 1)), (by first | rfl | (simp; done) | (simp [*]; done)), H', ⟨by have := HK1.out; have := HK2.out; have := HK3.out; have := HK4.out; omega⟩, ⟨by (try simp only [hl10_1]); (try simp only [hl10_2]); (try simp only [hl10_3]); (try simp only [hl10_4]); (with_reducible repeat (first | apply Kd.R_alloc | apply Kd.R_drewN | apply Kd.R_drew)); exact Kd.R_mono HO_10.out (fun _ hk => trivial)⟩, ⟨by repeat (first | (with_reducible first | exact HB.out | apply below_alloc | apply pw_below_drewN | apply below_drew1) | exact HB.out)⟩⟩
                      · rw [if_neg c40] at H
                        have c40b0 : decide (x80_3 < (x10_2.length : Int)) = false := decide_eq_false c40
                        try (have c40b0e0 := c40b0; simp only [hl10_1] at c40b0e0)
                        try (have c40b0e1 := c40b0; simp only [hl10_14] at c40b0e1)
                        try (have c40b0e2 := c40b0; simp only [hl10_2] at c40b0e2)
                        try (have c40b0e3 := c40b0; simp only [hl10_3] at c40b0e3)
                        try (have c40b0e4 := c40b0; simp only [hl10_4] at c40b0e4)
                        clear c40
                        have H' := Aside0.mk H
                        clear H
                        go_wp2
                        (try simp only [← hl10_2, ← hl10_3])
                        go_roundg k3
                        case measure => have := HK1.out; have := HK2.out; have := HK3.out; omega
                        case rel => exact ⟨(x10_3), (wrap64 (x12_2 + 1)), (by first | rfl | (simp; done) | (simp [*]; done)), H', ⟨by have := HK1.out; have := HK2.out; have := HK3.out; omega⟩, ⟨by (try simp only [hl10_1]); (try simp only [hl10_2]); (try simp only [hl10_3]); (with_reducible repeat (first | apply Kd.R_alloc | apply Kd.R_drewN | apply Kd.R_drew)); exact HO_10.out⟩, ⟨by repeat (first | (with_reducible first | exact HB.out | apply below_alloc | apply pw_below_drewN | apply below_drew1) | exact HB.out)⟩⟩
                · rw [if_neg c39] at H
                  have c39b0 : decide (x12_2 < ji5) = false := decide_eq_false c39
                  clear c39
                  have H' := Aside0.mk H
                  clear H
                  go_wp2
                  go_loopg [17, 125] k2 (fun kq v17 v125 w' => ∃ (x17_3 : Int) (x125_3 : Int), v17 = .int .i64 x17_3 ∧ v125 = .int .i64 x125_3 ∧ Aside0 (spec_hxNeed.l4 kq a1 a3 ji5 x17_3 x10_2 (x10_2.length : Int) x125_3 = some r) ∧ Aside0 (kq ≤ k2) ∧ Aside0 (Kd.R (Kd.int .i64) 3 w' w.heap.size (fun _ => True) (.slice Ao10 x10_2.length co10) x10_2) ∧ Aside0 (Below w.heap.size w w'))
                  case atStart => exact ⟨(wrap64 (ji5 + 1)), (0), (by first | rfl | (simp; done) | (simp only [← hji5] <;> (first | rfl | simp)) | (simp [*]; done)), (by first | rfl | (simp; done) | (simp [*]; done)), H', ⟨Nat.le_refl _⟩, ⟨by (try simp only [hl10_1]); (try simp only [hl10_2]); (with_reducible repeat (first | apply Kd.R_alloc | apply Kd.R_drewN | apply Kd.R_drew)); exact HO_10.out⟩, ⟨by repeat (first | (with_reducible first | exact HB.out | apply below_alloc | apply pw_below_drewN | apply below_drew1) | exact HB.out)⟩⟩
                  case round =>
                    clear H'
                    try clear c1
                    try clear p1
                    try clear q1
                    try clear hx1
                    try clear c2
                    try clear p2
                    try clear q2
                    try clear hx2
                    try clear c3
                    try clear p3
                    try clear q3
                    try clear hx3
                    try clear c4
                    try clear c5
                    try clear p5
                    try clear q5
                    try clear hx5
                    try clear hf5
                    try clear c6
                    try clear c6b0
                    try clear c6b1
                    try clear p6
                    try clear q6
                    try clear hx6
                    try clear hf6
                    try clear c7
                    try clear c7b0
                    try clear c7b1
                    try clear c11
                    try clear c11b0
                    try clear c12
                    try clear c12b0
                    try clear c13
                    try clear c13b0
                    try clear p14
                    try clear q14
                    try clear hx14
                    try clear hf14
                    try clear c18
                    try clear c18b0
                    try clear c19
                    try clear c19b0
                    try clear c19b1
                    try clear c20
                    try clear c20b0
                    try clear c20b1
                    try clear c21
                    try clear c21b0
                    try clear c22
                    try clear c22b0
                    try clear c22b1
                    try clear p22
                    try clear q22
                    try clear hx22
                    try clear c23
                    try clear c23b0
                    try clear c23b1
                    try clear p23
                    try clear q23
                    try clear hx23
                    try clear c24
                    try clear c24b0
                    try clear c24b1
                    try clear c25
                    try clear c25b0
                    try clear c25b1
                    try clear c26
                    try clear c27
                    try clear c27b0
                    try clear c28
                    try clear c28b0
                    try clear p29
                    try clear q29
                    try clear hx29
                    try clear hf29
                    try clear c30
                    try clear c30b0
                    try clear c31
                    try clear c31b0
                    try clear c31b1
                    try clear p32
                    try clear q32
                    try clear hx32
                    try clear hf32
                    try clear c39
                    try clear c39b0
                    try clear c40
                    try clear c40b0
                    try clear c44
                    try clear c44b0
                    try clear c45
                    try clear c45b0
                    try clear c46
                    try clear c46b0
                    try clear c47
                    try clear c47b0
                    try clear c48
                    try clear c48b0
                    try clear c49
                    try clear c49b0
                    try clear c49b1
                    try clear c50
                    try clear c50b0
                    try clear c51
                    try clear c51b0
                    try clear c52
                    try clear c52b0
                    try clear c52b1
                    try clear c53
                    try clear c53b0
                    try clear p55
                    try clear q55
                    try clear hx55
                    try clear hf55
                    try clear c58
                    try clear c58b0
                    try clear p60
                    try clear q60
                    try clear hx60
                    try clear hf60
                    try clear hx14_0
                    try clear hx221_0
                    try clear hx223_0
                    try clear hx228_0
                    try clear hx229_0
                    try clear hx230_0
                    try clear hx231_0
                    try clear hx232_0
                    try clear hx235_0
                    try clear hx29_0
                    try clear hx32_0
                    try clear hx55_0
                    try clear hx60_0
                    try clear p1
                    try clear p14
                    try clear p2
                    try clear p22
                    try clear p221
                    try clear p223
                    try clear p228
                    try clear p229
                    try clear p230
                    try clear p231
                    try clear p232
                    try clear p235
                    try clear p29
                    try clear p3
                    try clear p32
                    try clear p55
                    try clear p6
                    try clear p60
                    try clear q1
                    try clear q14
                    try clear q2
                    try clear q22
                    try clear q221
                    try clear q223
                    try clear q228
                    try clear q229
                    try clear q230
                    try clear q231
                    try clear q232
                    try clear q235
                    try clear q29
                    try clear q3
                    try clear q32
                    try clear q55
                    try clear q60
                    obtain ⟨x17_3, x125_3, rfl, rfl, HA, HK3, HO_123, HB⟩ := hrel
                    cases gk with
                    | zero => exact absurd HA.out (by simp [spec_hxNeed.l4])
                    | succ k3 =>
                      have H := HA.out
                      clear HA
                      simp only [spec_hxNeed.l4] at H
                      by_cases c63 : x125_3 < (x10_2.length : Int)
                      · rw [if_pos c63] at H
                        have c63b0 : decide (x125_3 < (x10_2.length : Int)) = true := decide_eq_true c63
                        try (have c63b0e0 := c63b0; simp only [hl10_1] at c63b0e0)
                        try (have c63b0e1 := c63b0; simp only [hl10_14] at c63b0e1)
                        try (have c63b0e2 := c63b0; simp only [hl10_2] at c63b0e2)
                        try (have c63b0e3 := c63b0; simp only [hl10_3] at c63b0e3)
                        try (have c63b0e4 := c63b0; simp only [hl10_4] at c63b0e4)
                        clear c63
                        by_cases c64 : 0 ≤ x125_3
                        · rw [if_pos c64] at H
                          have c64b0 : decide (0 ≤ x125_3) = true := decide_eq_true c64
                          clear c64
                          by_cases c65 : x125_3 < (x10_2.length : Int)
                          · rw [if_pos c65] at H
                            have c65b0 : decide (x125_3 < (x10_2.length : Int)) = true := decide_eq_true c65
                            try (have c65b0e0 := c65b0; simp only [hl10_1] at c65b0e0)
                            try (have c65b0e1 := c65b0; simp only [hl10_14] at c65b0e1)
                            try (have c65b0e2 := c65b0; simp only [hl10_2] at c65b0e2)
                            try (have c65b0e3 := c65b0; simp only [hl10_3] at c65b0e3)
                            try (have c65b0e4 := c65b0; simp only [hl10_4] at c65b0e4)
                            clear c65
                            by_cases c66 : a3 = 1
                            · rw [if_pos c66] at H
                              have c66b0 : (a3 == 1) = true := beq_iff_eq.mpr c66
                              have c66b1 : (a3 != 1) = false := bne_eq_false_iff_eq.mpr c66
                              clear c66
                              by_cases c67 : x125_3 ≥ (wrap64 (ji5 - a1))
                              · rw [if_pos c67] at H
                                have c67b0 : decide ((wrap64 (ji5 - a1)) ≤ x125_3) = true := decide_eq_true c67
                                clear c67
                                replace H := Option.bind_eq_some_iff.mp H
                                obtain ⟨t239, A680, H⟩ := H
                                replace H : (spec_hxNeed.l4 k3 a1 a3 ji5 t239 x10_2 (x10_2.length : Int) (wrap64 (x125_3 + 1))) = some r := H
                                have A68 := Aside0.mk A680
                                clear A680
                                have H' := Aside0.mk H
                                clear H
                                have p238 : 0 ≤ (x125_3 : Int) := of_decide_eq_true (by first | (with_reducible assumption) | assumption)
                                have q238 : x125_3 < (x10_2.length : Int) := of_decide_eq_true (by first | (with_reducible assumption) | assumption)
                                obtain ⟨ad238, e238, hx238_0⟩ := Kd.at_int (Kd.R_reads' HO_123.out).2.2 x125_3 p238 q238
                                cases e238
                                replace p238 := eq_true p238
                                replace q238 := eq_true q238
                                go_wp2_with (first | ((with_reducible refine gate_callee (f := 78) rfl ?_); refine goesL_ (some 153) rfl rfl Try.func78 (by kernel_rfl) rfl #[.int .i64 x17_3, .int .i64 (rd x10_2 x125_3)] rfl (by (try simp only [List.map_toArray, List.map_cons, List.map_nil]); first | done | rfl | (simp only [List.length_drop, List.length_take]; rfl)) ?_; (with_reducible refine (spec_l1Least.calls x17_3 (rd x10_2 x125_3) t239 _ A68.out).mono ?_); rintro e w' ⟨rfl, ⟨nd, rfl⟩⟩; refine ⟨_, rfl, ?_⟩))
                                go_roundg k3
                                case measure => have := HK1.out; have := HK2.out; have := HK3.out; omega
                                case rel => exact ⟨(t239), (wrap64 (x125_3 + 1)), (by first | rfl | (simp; done) | (simp [*]; done)), (by first | rfl | (simp; done) | (simp [*]; done)), H', ⟨by have := HK1.out; have := HK2.out; have := HK3.out; omega⟩, ⟨by (try simp only [hl10_1]); (try simp only [hl10_2]); (with_reducible repeat (first | apply Kd.R_alloc | apply Kd.R_drewN | apply Kd.R_drew)); exact HO_123.out⟩, ⟨by repeat (first | (with_reducible first | exact HB.out | apply below_alloc | apply pw_below_drewN | apply below_drew1) | exact HB.out)⟩⟩
                              · rw [if_neg c67] at H
                                have c67b0 : decide ((wrap64 (ji5 - a1)) ≤ x125_3) = false := decide_eq_false c67
                                clear c67
                                by_cases c69 : a3 = 2
                                · rw [if_pos c69] at H
                                  have c69b0 : (a3 == 2) = true := beq_iff_eq.mpr c69
                                  have c69b1 : (a3 != 2) = false := bne_eq_false_iff_eq.mpr c69
                                  clear c69
                                  by_cases c70 : a1 = 0
                                  · rw [if_pos c70] at H
                                    exact absurd H (by simp)
                                  · rw [if_neg c70] at H
                                    have c70b0 : (a1 == 0) = false := beq_eq_false_iff_ne.mpr c70
                                    have c70b1 : (a1 != 0) = true := bne_iff_ne.mpr c70
                                    by_cases c71 : (Int.tmod x125_3 a1) = (wrap64 (a1 - 1))
                                    · rw [if_pos c71] at H
                                      have c71b0 : ((Int.tmod x125_3 a1) == (wrap64 (a1 - 1))) = true := beq_iff_eq.mpr c71
                                      have c71b1 : ((Int.tmod x125_3 a1) != (wrap64 (a1 - 1))) = false := bne_eq_false_iff_eq.mpr c71
                                      clear c71
                                      replace H := Option.bind_eq_some_iff.mp H
                                      obtain ⟨t240, A720, H⟩ := H
                                      replace H : (spec_hxNeed.l4 k3 a1 a3 ji5 t240 x10_2 (x10_2.length : Int) (wrap64 (x125_3 + 1))) = some r := H
                                      have A72 := Aside0.mk A720
                                      clear A720
                                      have H' := Aside0.mk H
                                      clear H
                                      have p238 : 0 ≤ (x125_3 : Int) := of_decide_eq_true (by first | (with_reducible assumption) | assumption)
                                      have q238 : x125_3 < (x10_2.length : Int) := of_decide_eq_true (by first | (with_reducible assumption) | assumption)
                                      obtain ⟨ad238, e238, hx238_0⟩ := Kd.at_int (Kd.R_reads' HO_123.out).2.2 x125_3 p238 q238
                                      cases e238
                                      replace p238 := eq_true p238
                                      replace q238 := eq_true q238
                                      go_wp2_with (first | ((with_reducible refine gate_callee (f := 78) rfl ?_); refine goesL_ (some 153) rfl rfl Try.func78 (by kernel_rfl) rfl #[.int .i64 x17_3, .int .i64 (rd x10_2 x125_3)] rfl (by (try simp only [List.map_toArray, List.map_cons, List.map_nil]); first | done | rfl | (simp only [List.length_drop, List.length_take]; rfl)) ?_; (with_reducible refine (spec_l1Least.calls x17_3 (rd x10_2 x125_3) t240 _ A72.out).mono ?_); rintro e w' ⟨rfl, ⟨nd, rfl⟩⟩; refine ⟨_, rfl, ?_⟩))
                                      go_roundg k3
                                      case measure => have := HK1.out; have := HK2.out; have := HK3.out; omega
                                      case rel => exact ⟨(t240), (wrap64 (x125_3 + 1)), (by first | rfl | (simp; done) | (simp [*]; done)), (by first | rfl | (simp; done) | (simp [*]; done)), H', ⟨by have := HK1.out; have := HK2.out; have := HK3.out; omega⟩, ⟨by (try simp only [hl10_1]); (try simp only [hl10_2]); (with_reducible repeat (first | apply Kd.R_alloc | apply Kd.R_drewN | apply Kd.R_drew)); exact HO_123.out⟩, ⟨by repeat (first | (with_reducible first | exact HB.out | apply below_alloc | apply pw_below_drewN | apply below_drew1) | exact HB.out)⟩⟩
                                    · rw [if_neg c71] at H
                                      have c71b0 : ((Int.tmod x125_3 a1) == (wrap64 (a1 - 1))) = false := beq_eq_false_iff_ne.mpr c71
                                      have c71b1 : ((Int.tmod x125_3 a1) != (wrap64 (a1 - 1))) = true := bne_iff_ne.mpr c71
                                      have H' := Aside0.mk H
                                      clear H
                                      have p238 : 0 ≤ (x125_3 : Int) := of_decide_eq_true (by first | (with_reducible assumption) | assumption)
                                      have q238 : x125_3 < (x10_2.length : Int) := of_decide_eq_true (by first | (with_reducible assumption) | assumption)
                                      obtain ⟨ad238, e238, hx238_0⟩ := Kd.at_int (Kd.R_reads' HO_123.out).2.2 x125_3 p238 q238
                                      cases e238
                                      replace p238 := eq_true p238
                                      replace q238 := eq_true q238
                                      go_wp2
                                      go_roundg k3
                                      case measure => have := HK1.out; have := HK2.out; have := HK3.out; omega
                                      case rel => exact ⟨(x17_3), (wrap64 (x125_3 + 1)), (by first | rfl | (simp; done) | (simp [*]; done)), (by first | rfl | (simp; done) | (simp [*]; done)), H', ⟨by have := HK1.out; have := HK2.out; have := HK3.out; omega⟩, ⟨by (try simp only [hl10_1]); (try simp only [hl10_2]); (with_reducible repeat (first | apply Kd.R_alloc | apply Kd.R_drewN | apply Kd.R_drew)); exact HO_123.out⟩, ⟨by repeat (first | (with_reducible first | exact HB.out | apply below_alloc | apply pw_below_drewN | apply below_drew1) | exact HB.out)⟩⟩
                                · rw [if_neg c69] at H
                                  have c69b0 : (a3 == 2) = false := beq_eq_false_iff_ne.mpr c69
                                  have c69b1 : (a3 != 2) = true := bne_iff_ne.mpr c69
                                  have H' := Aside0.mk H
                                  clear H
                                  have p238 : 0 ≤ (x125_3 : Int) := of_decide_eq_true (by first | (with_reducible assumption) | assumption)
                                  have q238 : x125_3 < (x10_2.length : Int) := of_decide_eq_true (by first | (with_reducible assumption) | assumption)
                                  obtain ⟨ad238, e238, hx238_0⟩ := Kd.at_int (Kd.R_reads' HO_123.out).2.2 x125_3 p238 q238
                                  cases e238
                                  replace p238 := eq_true p238
                                  replace q238 := eq_true q238
                                  go_wp2
                                  go_roundg k3
                                  case measure => have := HK1.out; have := HK2.out; have := HK3.out; omega
                                  case rel => exact ⟨(x17_3), (wrap64 (x125_3 + 1)), (by first | rfl | (simp; done) | (simp [*]; done)), (by first | rfl | (simp; done) | (simp [*]; done)), H', ⟨by have := HK1.out; have := HK2.out; have := HK3.out; omega⟩, ⟨by (try simp only [hl10_1]); (try simp only [hl10_2]); (with_reducible repeat (first | apply Kd.R_alloc | apply Kd.R_drewN | apply Kd.R_drew)); exact HO_123.out⟩, ⟨by repeat (first | (with_reducible first | exact HB.out | apply below_alloc | apply pw_below_drewN | apply below_drew1) | exact HB.out)⟩⟩
                            · rw [if_neg c66] at H
                              have c66b0 : (a3 == 1) = false := beq_eq_false_iff_ne.mpr c66
                              have c66b1 : (a3 != 1) = true := bne_iff_ne.mpr c66
                              by_cases c73 : a3 = 2
                              · rw [if_pos c73] at H
                                have c73b0 : (a3 == 2) = true := beq_iff_eq.mpr c73
                                have c73b1 : (a3 != 2) = false := bne_eq_false_iff_eq.mpr c73
                                clear c73
                                by_cases c74 : a1 = 0
                                · rw [if_pos c74] at H
                                  exact absurd H (by simp)
                                · rw [if_neg c74] at H
                                  have c74b0 : (a1 == 0) = false := beq_eq_false_iff_ne.mpr c74
                                  have c74b1 : (a1 != 0) = true := bne_iff_ne.mpr c74
                                  by_cases c75 : (Int.tmod x125_3 a1) = (wrap64 (a1 - 1))
                                  · rw [if_pos c75] at H
                                    have c75b0 : ((Int.tmod x125_3 a1) == (wrap64 (a1 - 1))) = true := beq_iff_eq.mpr c75
                                    have c75b1 : ((Int.tmod x125_3 a1) != (wrap64 (a1 - 1))) = false := bne_eq_false_iff_eq.mpr c75
                                    clear c75
                                    replace H := Option.bind_eq_some_iff.mp H
                                    obtain ⟨t241, A760, H⟩ := H
                                    replace H : (spec_hxNeed.l4 k3 a1 a3 ji5 t241 x10_2 (x10_2.length : Int) (wrap64 (x125_3 + 1))) = some r := H
                                    have A76 := Aside0.mk A760
                                    clear A760
                                    have H' := Aside0.mk H
                                    clear H
                                    have p238 : 0 ≤ (x125_3 : Int) := of_decide_eq_true (by first | (with_reducible assumption) | assumption)
                                    have q238 : x125_3 < (x10_2.length : Int) := of_decide_eq_true (by first | (with_reducible assumption) | assumption)
                                    obtain ⟨ad238, e238, hx238_0⟩ := Kd.at_int (Kd.R_reads' HO_123.out).2.2 x125_3 p238 q238
                                    cases e238
                                    replace p238 := eq_true p238
                                    replace q238 := eq_true q238
                                    go_wp2_with (first | ((with_reducible refine gate_callee (f := 78) rfl ?_); refine goesL_ (some 153) rfl rfl Try.func78 (by kernel_rfl) rfl #[.int .i64 x17_3, .int .i64 (rd x10_2 x125_3)] rfl (by (try simp only [List.map_toArray, List.map_cons, List.map_nil]); first | done | rfl | (simp only [List.length_drop, List.length_take]; rfl)) ?_; (with_reducible refine (spec_l1Least.calls x17_3 (rd x10_2 x125_3) t241 _ A76.out).mono ?_); rintro e w' ⟨rfl, ⟨nd, rfl⟩⟩; refine ⟨_, rfl, ?_⟩))
                                    go_roundg k3
                                    case measure => have := HK1.out; have := HK2.out; have := HK3.out; omega
                                    case rel => exact ⟨(t241), (wrap64 (x125_3 + 1)), (by first | rfl | (simp; done) | (simp [*]; done)), (by first | rfl | (simp; done) | (simp [*]; done)), H', ⟨by have := HK1.out; have := HK2.out; have := HK3.out; omega⟩, ⟨by (try simp only [hl10_1]); (try simp only [hl10_2]); (with_reducible repeat (first | apply Kd.R_alloc | apply Kd.R_drewN | apply Kd.R_drew)); exact HO_123.out⟩, ⟨by repeat (first | (with_reducible first | exact HB.out | apply below_alloc | apply pw_below_drewN | apply below_drew1) | exact HB.out)⟩⟩
                                  · rw [if_neg c75] at H
                                    have c75b0 : ((Int.tmod x125_3 a1) == (wrap64 (a1 - 1))) = false := beq_eq_false_iff_ne.mpr c75
                                    have c75b1 : ((Int.tmod x125_3 a1) != (wrap64 (a1 - 1))) = true := bne_iff_ne.mpr c75
                                    have H' := Aside0.mk H
                                    clear H
                                    have p238 : 0 ≤ (x125_3 : Int) := of_decide_eq_true (by first | (with_reducible assumption) | assumption)
                                    have q238 : x125_3 < (x10_2.length : Int) := of_decide_eq_true (by first | (with_reducible assumption) | assumption)
                                    obtain ⟨ad238, e238, hx238_0⟩ := Kd.at_int (Kd.R_reads' HO_123.out).2.2 x125_3 p238 q238
                                    cases e238
                                    replace p238 := eq_true p238
                                    replace q238 := eq_true q238
                                    go_wp2
                                    go_roundg k3
                                    case measure => have := HK1.out; have := HK2.out; have := HK3.out; omega
                                    case rel => exact ⟨(x17_3), (wrap64 (x125_3 + 1)), (by first | rfl | (simp; done) | (simp [*]; done)), (by first | rfl | (simp; done) | (simp [*]; done)), H', ⟨by have := HK1.out; have := HK2.out; have := HK3.out; omega⟩, ⟨by (try simp only [hl10_1]); (try simp only [hl10_2]); (with_reducible repeat (first | apply Kd.R_alloc | apply Kd.R_drewN | apply Kd.R_drew)); exact HO_123.out⟩, ⟨by repeat (first | (with_reducible first | exact HB.out | apply below_alloc | apply pw_below_drewN | apply below_drew1) | exact HB.out)⟩⟩
                              · rw [if_neg c73] at H
                                have c73b0 : (a3 == 2) = false := beq_eq_false_iff_ne.mpr c73
                                have c73b1 : (a3 != 2) = true := bne_iff_ne.mpr c73
                                have H' := Aside0.mk H
                                clear H
                                have p238 : 0 ≤ (x125_3 : Int) := of_decide_eq_true (by first | (with_reducible assumption) | assumption)
                                have q238 : x125_3 < (x10_2.length : Int) := of_decide_eq_true (by first | (with_reducible assumption) | assumption)
                                obtain ⟨ad238, e238, hx238_0⟩ := Kd.at_int (Kd.R_reads' HO_123.out).2.2 x125_3 p238 q238
                                cases e238
                                replace p238 := eq_true p238
                                replace q238 := eq_true q238
                                go_wp2
                                go_roundg k3
                                case measure => have := HK1.out; have := HK2.out; have := HK3.out; omega
                                case rel => exact ⟨(x17_3), (wrap64 (x125_3 + 1)), (by first | rfl | (simp; done) | (simp [*]; done)), (by first | rfl | (simp; done) | (simp [*]; done)), H', ⟨by have := HK1.out; have := HK2.out; have := HK3.out; omega⟩, ⟨by (try simp only [hl10_1]); (try simp only [hl10_2]); (with_reducible repeat (first | apply Kd.R_alloc | apply Kd.R_drewN | apply Kd.R_drew)); exact HO_123.out⟩, ⟨by repeat (first | (with_reducible first | exact HB.out | apply below_alloc | apply pw_below_drewN | apply below_drew1) | exact HB.out)⟩⟩
                          · rw [if_neg c65] at H
                            exact absurd H (by simp)
                        · rw [if_neg c64] at H
                          exact absurd H (by simp)
                      · rw [if_neg c63] at H
                        have c63b0 : decide (x125_3 < (x10_2.length : Int)) = false := decide_eq_false c63
                        try (have c63b0e0 := c63b0; simp only [hl10_1] at c63b0e0)
                        try (have c63b0e1 := c63b0; simp only [hl10_14] at c63b0e1)
                        try (have c63b0e2 := c63b0; simp only [hl10_2] at c63b0e2)
                        try (have c63b0e3 := c63b0; simp only [hl10_3] at c63b0e3)
                        try (have c63b0e4 := c63b0; simp only [hl10_4] at c63b0e4)
                        clear c63
                        obtain rfl := Option.some.inj H
                        go_wp2
                        go_ret
                        exact ⟨by first | rfl | (simp [errW_none, errW_some] <;> rfl) | (simp only [← hji5]; first | rfl | (simp [errW_none, errW_some] <;> rfl)) | (simp [*, errW_none, errW_some] <;> rfl), by repeat (first | (with_reducible first | exact HB.out | apply below_alloc | apply pw_below_drewN | apply below_drew1) | exact HB.out)⟩
    · rw [if_neg c7] at H
      exact absurd H (by simp)
  · rw [if_neg c6] at H
    exact absurd H (by simp)

end Go.Proofs.Ytenaefpbjblmbaa.Q
