/- impl.hexSteps2, impl.areNear, rimmed.thirds by hand (an array sliced, places as pairs); for all slices that read as lists. -/
import Derived.Test.YtmfocekebenniaaQx5
import Derived.Test.YtmfocekebenniaaQx6
import Derived.Lib.Walk
import Derived.Deep.RegionHeld3
import Derived.Deep.DeepCutAuto
import Derived.Outline
namespace Go.Proofs.Ytmfocekebenniaa.Given
open Go.Proofs.Ytmfocekebenniaa.Q Go.RowKit Go.Proofs.YtmfocekebenniaaW.PrintWords Go.Proofs.YtmfocekebenniaaW.PrintLast Go.Proofs.YtmfocekebenniaaW.PrintMore
set_option linter.unusedVariables false
set_option linter.unusedSimpArgs false

abbrev Pl := S76
def steps6 : List Pl := [⟨-1, 0⟩, ⟨-1, 1⟩, ⟨0, -1⟩, ⟨0, 1⟩, ⟨1, -1⟩, ⟨1, 0⟩]
theorem steps_C {w : World} {b : Nat} {t : TypeId} (h : w.heap[b]? = some (.cells #[.int .i64 (-1), .int .i64 0, .int .i64 (-1), .int .i64 1, .int .i64 0, .int .i64 (-1), .int .i64 0, .int .i64 1, .int .i64 1, .int .i64 (-1), .int .i64 1, .int .i64 0] t (0, 0))) : Kd.C k76 w (some ⟨b, 0, none⟩) steps6.length steps6 := by
  refine ⟨rfl, by decide, fun _ => ⟨_, rfl, fun j p hj => ?_⟩⟩
  have hc : ∀ i, w.cell? ⟨b, i, none⟩ = _ := fun i => blk_cell h i
  match j, hj with
  | 0, hj => simp [steps6] at hj; subst hj; exact ⟨_, rfl, k76_mk _ _, fun i u hu => by match i, hu with | 0, hu => exact (hc 0).trans hu | 1, hu => exact (hc 1).trans hu | i + 2, hu => simp at hu⟩
  | 1, hj => simp [steps6] at hj; subst hj; exact ⟨_, rfl, k76_mk _ _, fun i u hu => by match i, hu with | 0, hu => exact (hc 2).trans hu | 1, hu => exact (hc 3).trans hu | i + 2, hu => simp at hu⟩
  | 2, hj => simp [steps6] at hj; subst hj; exact ⟨_, rfl, k76_mk _ _, fun i u hu => by match i, hu with | 0, hu => exact (hc 4).trans hu | 1, hu => exact (hc 5).trans hu | i + 2, hu => simp at hu⟩
  | 3, hj => simp [steps6] at hj; subst hj; exact ⟨_, rfl, k76_mk _ _, fun i u hu => by match i, hu with | 0, hu => exact (hc 6).trans hu | 1, hu => exact (hc 7).trans hu | i + 2, hu => simp at hu⟩
  | 4, hj => simp [steps6] at hj; subst hj; exact ⟨_, rfl, k76_mk _ _, fun i u hu => by match i, hu with | 0, hu => exact (hc 8).trans hu | 1, hu => exact (hc 9).trans hu | i + 2, hu => simp at hu⟩
  | 5, hj => simp [steps6] at hj; subst hj; exact ⟨_, rfl, k76_mk _ _, fun i u hu => by match i, hu with | 0, hu => exact (hc 10).trans hu | 1, hu => exact (hc 11).trans hu | i + 2, hu => simp at hu⟩
  | j + 6, hj => simp [steps6] at hj

set_option maxHeartbeats 4000000 in
set_option maxRecDepth 100000 in
theorem impl_hexSteps2.calls (w : World) : Calls Try.prog 45 #[] w fun e w' => ∃ b, e = .returned (.slice (some ⟨b, 0, none⟩) 6 6) ∧ Kd.C k76 w' (some ⟨b, 0, none⟩) steps6.length steps6 ∧ Below w.heap.size w w' ∧ w.heap.size ≤ b := by
  have hu1 := Try.underlying76
  have hu2 := Try.underlying79
  go_enter Try.func45, Try.ntmps45
  go_wp2_with fail
  refine (impl_hexSteps.calls (-1) 0 (-1) 1 0 (-1) 0 1 1 (-1) 1 0 _ rfl).mono ?_
  rintro e w2 ⟨rfl, B2⟩
  have B2 := Aside0.mk (below_step (show Below w.heap.size w _ by repeat (first | exact Below.refl _ _ | apply pw_below_drewN)) B2)
  go_wp2
  go_ret
  exact ⟨w2.heap.size, rfl, steps_C (blk_new _ _), below_alloc B2.out _, B2.out.size⟩

def impl_areNear.f (k : Nat) (p0 p1 q0 q1 : Int) : Option Bool := slices_Contains_2_int_2_int.f k steps6 (wrap64 (q0 - p0)) (wrap64 (q1 - p1))
theorem contains6 (k : Nat) (r : Bool) (bb : Nat) (W : World) (C : Kd.C k76 W (some ⟨bb, 0, none⟩) steps6.length steps6) (x y : Int) (h : slices_Contains_2_int_2_int.f k steps6 x y = some r) :
    Calls Try.prog 52 #[.slice (some ⟨bb, 0, none⟩) 6 6, .agg #[.int .i64 x, .int .i64 y]] W fun e w' => e = .returned (.bool r) ∧ Below W.heap.size W w' :=
  slices_Contains_2_int_2_int.calls k (some ⟨bb, 0, none⟩) 6 steps6 x y r W C (by decide) h
set_option maxHeartbeats 32000000 in
set_option maxRecDepth 100000 in
theorem impl_areNear.calls (k : Nat) (p0 p1 q0 q1 : Int) (r : Bool) (w : World) (h : impl_areNear.f k p0 p1 q0 q1 = some r) :
    Calls Try.prog 47 #[.agg #[.int .i64 p0, .int .i64 p1], .agg #[.int .i64 q0, .int .i64 q1]] w fun e w' => e = .returned (.bool r) ∧ Below w.heap.size w w' := by
  have hu1 := Try.underlying76
  have hu2 := Try.underlying38
  have H := Aside0.mk (show slices_Contains_2_int_2_int.f k steps6 (IntKind.i64.wrap (q0 - p0)) (IntKind.i64.wrap (q1 - p1)) = some r by rw [IntWalk.i64_left, IntWalk.i64_left]; exact h)
  clear h
  obtain ⟨w1, hw1⟩ : ∃ w1, w1 = w.alloc (.cells #[.int .i64 p0, .int .i64 p1] 38) := ⟨_, rfl⟩
  obtain ⟨w2, hw2⟩ : ∃ w2, w2 = w1.alloc (.cells #[.int .i64 q0, .int .i64 q1] 38) := ⟨_, rfl⟩
  have hs1 : w1.heap.size = w.heap.size + 1 := by rw [hw1]; simp
  have B2 := Aside0.mk (show Below w.heap.size w w2 from hw2 ▸ below_alloc (hw1 ▸ below_alloc (Below.refl w.heap.size w) _) _)
  have hb1 : w2.heap[w.heap.size]? = some (.cells #[.int .i64 p0, .int .i64 p1] 38 (0, 0)) := by rw [hw2]; refine blk_alloc ?_ _; rw [hw1]; exact blk_new _ _
  have hb2 : w2.heap[w.heap.size + 1]? = some (.cells #[.int .i64 q0, .int .i64 q1] 38 (0, 0)) := by rw [hw2, ← hs1]; exact blk_new _ _
  have HSS := Aside0.mk (show ∀ W, Below w2.heap.size w2 W → Below w2.heap.size w2 W ∧ W.cell? ⟨w.heap.size, 0, none⟩ = some (.int .i64 p0) ∧ W.cell? ⟨w.heap.size, 1, none⟩ = some (.int .i64 p1) ∧ W.cell? ⟨w.heap.size + 1, 0, none⟩ = some (.int .i64 q0) ∧ W.cell? ⟨w.heap.size + 1, 1, none⟩ = some (.int .i64 q1) from fun W hW => by
    have g1 := blk_below hb1 hW
    have g2 := blk_below hb2 hW
    exact ⟨hW, by rw [blk_cell g1]; rfl, by rw [blk_cell g1]; rfl, by rw [blk_cell g2]; rfl, by rw [blk_cell g2]; rfl⟩)
  have HW1 := Aside0.mk hw1
  have HW2 := Aside0.mk hw2
  clear hw1 hw2 hb1 hb2 hs1
  go_enter Try.func47, Try.ntmps47
  go_upto_region 1 with fail
  rw [← HW1.out, ← HW2.out]
  go_region_held3 (fun w' => Below w2.heap.size w2 w' ∧ w'.cell? ⟨w.heap.size, 0, none⟩ = some (.int .i64 p0) ∧ w'.cell? ⟨w.heap.size, 1, none⟩ = some (.int .i64 p1) ∧ w'.cell? ⟨w.heap.size + 1, 0, none⟩ = some (.int .i64 q0) ∧ w'.cell? ⟨w.heap.size + 1, 1, none⟩ = some (.int .i64 q1))
    (first | exact HSS.out _ BZ.out | exact HSS.out _ (below_drew BZ.out) | exact HSS.out _ (Below.refl _ _) | exact HSS.out _ (below_drew (Below.refl _ _)))
    (first
      | (go_at_call 45; refine (impl_hexSteps2.calls _).mono ?_; rintro e w' ⟨bb, rfl, CS, BX, hgb⟩; have BZ := Aside0.mk (below_step (show Below w2.heap.size w2 _ by first | exact Below.refl _ _ | exact below_drew (Below.refl _ _)) BX); have CZ := Aside0.mk CS; clear CS BX hgb)
      | (go_at_call 52; refine (contains6 k r bb _ (by first | exact CZ.out | exact Kd.C_drew CZ.out) (IntKind.i64.wrap (q0 - p0)) (IntKind.i64.wrap (q1 - p1)) H.out).mono ?_; rintro e w' ⟨rfl, BX⟩; have BZ := Aside0.mk (below_step (show Below w2.heap.size w2 _ by first | exact BZ.out | exact below_drew BZ.out) BX); clear BX))
  all_goals go_wp2
  all_goals go_ret
  all_goals exact ⟨rfl, below_step B2.out BZ.out⟩
end Go.Proofs.Ytmfocekebenniaa.Given
