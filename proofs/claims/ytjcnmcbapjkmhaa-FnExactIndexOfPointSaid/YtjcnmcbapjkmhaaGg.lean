/- impl.IndexOfPoint by hand (a slice made into an array); for all slices that read as lists. -/
import Derived.Test.YtjcnmcbapjkmhaaQx1
import Derived.Test.YtjcnmcbapjkmhaaGb
import Derived.Lib.Walk
import Derived.Outline
import Derived.WalkLawsBesides
import Derived.Deep.RegionWith
import Derived.Deep.RegionHeld3
namespace Go.Proofs.Ytjcnmcbapjkmhaa.Given
open Go.Proofs.Ytjcnmcbapjkmhaa.Q Go.RowKit Go.Proofs.YtjcnmcbapjkmhaaW.PrintWords Go.Proofs.YtjcnmcbapjkmhaaW.PrintLast Go.Proofs.YtjcnmcbapjkmhaaW.PrintMore
set_option linter.unusedVariables false
set_option linter.unusedSimpArgs false

def impl_IndexOfPoint.f (k : Nat) (a0 : Int) (l1 : List Int) : Option (Int × Bool) := (impl_isSide.f a0).bind fun s =>
  if s = true then (if (l1.length : Int) = 3 then ((impl_points.f k a0).bind fun ps => (slices_Index_3_int_3_int.f ps (rd l1 0) (rd l1 1) (rd l1 2)).bind fun i => if i < 0 then some (0, false) else some (i, true)) else some (0, false)) else some (0, false)
theorem impl_IndexOfPoint.mono : ∀ a0 a1 k, LeO (impl_IndexOfPoint.f k a0 a1) (impl_IndexOfPoint.f (k + 1) a0 a1) := by
  intro a0 a1 k
  unfold impl_IndexOfPoint.f
  exact LeO.bind (LeO.refl _) (fun _ => LeO.ite (LeO.ite (LeO.bind (impl_points.mono _ _) (fun _ => LeO.refl _)) (LeO.refl _)) (LeO.refl _))

set_option maxHeartbeats 4000000 in
set_option maxRecDepth 100000 in
theorem impl_IndexOfPoint.calls (k : Nat) (a0 : Int) (A1 : Option Addr) (c1 : Nat) (l1 : List Int) (r1 : Int) (r2 : Bool) (w : World) (hr1 : Kd.C (Kd.int .i64) w A1 l1.length l1) (hc1 : l1.length ≤ c1) (h : impl_IndexOfPoint.f k a0 l1 = some (r1, r2)) :
    Calls Try.prog 20 #[.int .i64 a0, .slice A1 l1.length c1] w fun e w' => e = .returned (.tuple #[.int .i64 r1, .bool r2]) ∧ Below w.heap.size w w' := by
  obtain ⟨s, hs, h⟩ := Option.bind_eq_some_iff.mp h
  have HS := Aside0.mk hs
  have HL := Aside0.mk hr1
  have HC := Aside0.mk hc1
  have hm := Kd.C_max hr1
  clear hs hr1 hc1
  cases s with
  | false =>
    simp only [Bool.false_eq_true, if_false, Option.some.injEq, Prod.mk.injEq] at h
    obtain ⟨rfl, rfl⟩ := h
    go_enter Try.func20, Try.ntmps20
    go_wp2_with (go_at_call 49; refine (impl_isSide.calls _ _ _ HS.out).mono ?_; rintro e w' ⟨rfl, ⟨nd, rfl⟩⟩)
    go_ret2
    exact ⟨rfl, by repeat (first | exact Below.refl _ _ | apply pw_below_drewN)⟩
  | true =>
    simp only [if_true] at h
    by_cases h3 : (l1.length : Int) = 3
    case neg =>
      rw [if_neg h3] at h
      have e1 : ((l1.length : Int) == 3) = false := beq_eq_false_iff_ne.mpr h3
      have e2 : ((l1.length : Int) != 3) = true := bne_iff_ne.mpr h3
      clear h3
      simp only [Option.some.injEq, Prod.mk.injEq] at h
      obtain ⟨rfl, rfl⟩ := h
      go_enter Try.func20, Try.ntmps20
      go_wp2_with (go_at_call 49; refine (impl_isSide.calls _ _ _ HS.out).mono ?_; rintro e w' ⟨rfl, ⟨nd, rfl⟩⟩)
      go_ret2
      exact ⟨rfl, by repeat (first | exact Below.refl _ _ | apply pw_below_drewN)⟩
    rw [if_pos h3] at h
    obtain ⟨ps, hps, h⟩ := Option.bind_eq_some_iff.mp h
    have HPS := Aside0.mk hps
    clear hps
    obtain ⟨i, hi, h⟩ := Option.bind_eq_some_iff.mp h
    have HI := Aside0.mk hi
    clear hi
    obtain ⟨adl, e1, hl0⟩ := Kd.at_int HL.out 0 (by omega) (by omega)
    cases e1
    obtain ⟨adl', e1, hl1⟩ := Kd.at_int HL.out 1 (by omega) (by omega)
    cases e1
    obtain ⟨adl', e1, hl2⟩ := Kd.at_int HL.out 2 (by omega) (by omega)
    cases e1
    simp [Addr.add] at hl0 hl1 hl2
    have e1 : ((l1.length : Int) == 3) = true := beq_iff_eq.mpr h3
    have e2 : ((l1.length : Int) != 3) = false := bne_eq_false_iff_eq.mpr h3
    have e3 : l1.length = 3 := by omega
    have E3 := Aside0.mk e3
    clear h3 e3
    generalize rd l1 0 = q0 at hl0 HI
    generalize rd l1 1 = q1 at hl1 HI
    generalize rd l1 2 = q2 at hl2 HI
    have hu := Try.underlying47
    have har : ∀ W, (Instr.arrayAt 47 (.slice (some adl) l1.length c1)).run Try.prog W = .ok (.pointer (some adl)) W := by
      intro W
      simp [Instr.arrayAt, run_underlying hu, E3.out]
    by_cases hi0 : i < 0
    · rw [if_pos hi0] at h
      simp only [Option.some.injEq, Prod.mk.injEq] at h
      obtain ⟨rfl, rfl⟩ := h
      have e5 : decide (i < 0) = true := decide_eq_true hi0
      clear hi0
      go_enter Try.func20, Try.ntmps20
      go_wp2_with (go_at_call 49; refine (impl_isSide.calls _ _ _ HS.out).mono ?_; rintro e w' ⟨rfl, ⟨nd, rfl⟩⟩)
      go_region_with (first | (go_at_call 53; refine (impl_points.calls k _ ps _ HPS.out).mono ?_; rintro e w1 ⟨vp, rfl, RP, B1⟩; obtain ⟨Ap, cp, rfl⟩ := Kd.R_slice RP; have RPX := Aside0.mk RP; have B1X := Aside0.mk (pw_below_drewN (Below.refl w.heap.size w) _ |>.trans (B1.mono (by simp))); have k0 := pw_cell_below B1 hl0; have k1 := pw_cell_below B1 hl1; have k2 := pw_cell_below B1 hl2; clear RP B1) | (go_at_call 52; refine (slices_Index_3_int_3_int.calls _ _ ps q0 q1 q2 i _ ?C ?c HI.out).mono ?_; (case C => repeat (first | exact (Kd.R_reads' RPX.out).2.2 | apply Kd.C_drewN | apply Kd.C_drew)); (case c => exact (Kd.R_reads' RPX.out).2.1); rintro e w2 ⟨rfl, B2⟩; have B2X := Aside0.mk B2; clear B2))
      all_goals
        go_wp2
        go_ret2
        exact ⟨rfl, Below.trans (by repeat (first | exact B1X.out | apply pw_below_drewN | apply below_drew1)) (B2X.out.mono (by have := B1X.out.size; first | exact this | (simp; omega)))⟩
    · rw [if_neg hi0] at h
      simp only [Option.some.injEq, Prod.mk.injEq] at h
      obtain ⟨rfl, rfl⟩ := h
      have e5 : decide (i < 0) = false := decide_eq_false hi0
      clear hi0
      go_enter Try.func20, Try.ntmps20
      go_wp2_with (go_at_call 49; refine (impl_isSide.calls _ _ _ HS.out).mono ?_; rintro e w' ⟨rfl, ⟨nd, rfl⟩⟩)
      go_region_with (first | (go_at_call 53; refine (impl_points.calls k _ ps _ HPS.out).mono ?_; rintro e w1 ⟨vp, rfl, RP, B1⟩; obtain ⟨Ap, cp, rfl⟩ := Kd.R_slice RP; have RPX := Aside0.mk RP; have B1X := Aside0.mk (pw_below_drewN (Below.refl w.heap.size w) _ |>.trans (B1.mono (by simp))); have k0 := pw_cell_below B1 hl0; have k1 := pw_cell_below B1 hl1; have k2 := pw_cell_below B1 hl2; clear RP B1) | (go_at_call 52; refine (slices_Index_3_int_3_int.calls _ _ ps q0 q1 q2 i _ ?C ?c HI.out).mono ?_; (case C => repeat (first | exact (Kd.R_reads' RPX.out).2.2 | apply Kd.C_drewN | apply Kd.C_drew)); (case c => exact (Kd.R_reads' RPX.out).2.1); rintro e w2 ⟨rfl, B2⟩; have B2X := Aside0.mk B2; clear B2))
      all_goals
        go_wp2
        go_ret2
        exact ⟨rfl, Below.trans (by repeat (first | exact B1X.out | apply pw_below_drewN | apply below_drew1)) (B2X.out.mono (by have := B1X.out.size; first | exact this | (simp; omega)))⟩
end Go.Proofs.Ytjcnmcbapjkmhaa.Given
