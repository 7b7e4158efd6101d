/- spec.IndexOfPoint by hand; for all slices that read as lists. -/
import Derived.Test.YtjcnmcbapjkmhaaQx1
import Derived.Outline
namespace Go.Proofs.Ytjcnmcbapjkmhaa.Given
open Go.Proofs.Ytjcnmcbapjkmhaa.Q Go.RowKit Go.Proofs.YtjcnmcbapjkmhaaW.PrintWords Go.Proofs.YtjcnmcbapjkmhaaW.PrintLast Go.Proofs.YtjcnmcbapjkmhaaW.PrintMore
set_option linter.unusedVariables false
set_option linter.unusedSimpArgs false

def spec_IndexOfPoint.f (k : Nat) (a0 : Int) (l1 : List Int) : Option (Int × Bool) := (spec_meSide.f a0).bind fun s =>
  if s = true then (if (l1.length : Int) = 3 then ((spec_l1All.f k l1 0 a0).bind fun t => if t = true then (if wrap64 (wrap64 (rd l1 0 + rd l1 1) + rd l1 2) = a0 then ((spec_meIndex.f a0 l1).bind fun m => some (m, true)) else some (0, false)) else some (0, false)) else some (0, false)) else some (0, false)
theorem spec_IndexOfPoint.mono : ∀ a0 a1 k, LeO (spec_IndexOfPoint.f k a0 a1) (spec_IndexOfPoint.f (k + 1) a0 a1) := by
  intro a0 a1 k
  unfold spec_IndexOfPoint.f
  exact LeO.bind (LeO.refl _) (fun _ => LeO.ite (LeO.ite (LeO.bind (spec_l1All.mono _ _ _ _) (fun _ => LeO.refl _)) (LeO.refl _)) (LeO.refl _))

set_option maxHeartbeats 4000000 in
set_option maxRecDepth 100000 in
theorem spec_IndexOfPoint.calls (k : Nat) (a0 : Int) (A1 : Option Addr) (c1 : Nat) (l1 : List Int) (r1 : Int) (r2 : Bool) (w : World) (hr1 : Kd.C (Kd.int .i64) w A1 l1.length l1) (hc1 : l1.length ≤ c1) (h : spec_IndexOfPoint.f k a0 l1 = some (r1, r2)) :
    Calls Try.prog 19 #[.int .i64 a0, .slice A1 l1.length c1] w fun e w' => e = .returned (.tuple #[.int .i64 r1, .bool r2]) ∧ Drawn0 w w' := by
  obtain ⟨s, hs, h⟩ := Option.bind_eq_some_iff.mp h
  have HS := Aside0.mk hs
  have HL := Aside0.mk hr1
  have HC := Aside0.mk hc1
  have hm := Kd.C_max hr1
  clear hs hr1 hc1
  cases s with
  | false =>
    simp only [Bool.false_eq_true, if_false, Option.some.injEq, Prod.mk.injEq] at h
    obtain ⟨rfl, rfl⟩ := h
    go_enter Try.func19, Try.ntmps19
    go_wp2
    repeat (go_quiet ((go_at_call 46; refine (spec_meSide.calls _ _ _ HS.out).mono ?_; rintro e w' ⟨rfl, ⟨nd, rfl⟩⟩; first | exact ⟨rfl, _, World.drewN_drewN _ _ _⟩ | exact ⟨rfl, _, Eq.trans (World.drewN_drewN _ _ _) (congrArg (World.drewN _) (Nat.add_assoc _ _ _))⟩)); try go_wp2)
    go_ret2
    exact ⟨rfl, ⟨⟨_, rfl⟩⟩⟩
  | true =>
    simp only [if_true] at h
    by_cases h3 : (l1.length : Int) = 3
    case neg =>
      rw [if_neg h3] at h
      have e1 : ((l1.length : Int) == 3) = false := beq_eq_false_iff_ne.mpr h3
      have e2 : ((l1.length : Int) != 3) = true := bne_iff_ne.mpr h3
      clear h3
      simp only [Option.some.injEq, Prod.mk.injEq] at h
      obtain ⟨rfl, rfl⟩ := h
      go_enter Try.func19, Try.ntmps19
      go_wp2
      repeat (go_quiet ((go_at_call 46; refine (spec_meSide.calls _ _ _ HS.out).mono ?_; rintro e w' ⟨rfl, ⟨nd, rfl⟩⟩; first | exact ⟨rfl, _, World.drewN_drewN _ _ _⟩ | exact ⟨rfl, _, Eq.trans (World.drewN_drewN _ _ _) (congrArg (World.drewN _) (Nat.add_assoc _ _ _))⟩)); try go_wp2)
      go_ret2
      exact ⟨rfl, ⟨⟨_, rfl⟩⟩⟩
    rw [if_pos h3] at h
    obtain ⟨t, ht, h⟩ := Option.bind_eq_some_iff.mp h
    have HT := Aside0.mk ht
    clear ht
    have n0 : 0 < l1.length := by omega
    have n1 : 1 < l1.length := by omega
    have n2 : 2 < l1.length := by omega
    have m1 : (1 : Int) < (l1.length : Int) := by omega
    have m2 : (2 : Int) < (l1.length : Int) := by omega
    obtain ⟨adl, e1, hl0⟩ := Kd.at_int HL.out 0 (by omega) (by omega)
    cases e1
    obtain ⟨adl', e1, hl1⟩ := Kd.at_int HL.out 1 (by omega) (by omega)
    cases e1
    obtain ⟨adl', e1, hl2⟩ := Kd.at_int HL.out 2 (by omega) (by omega)
    cases e1
    simp [Addr.add] at hl0 hl1 hl2
    have e1 : ((l1.length : Int) == 3) = true := beq_iff_eq.mpr h3
    have e2 : ((l1.length : Int) != 3) = false := bne_eq_false_iff_eq.mpr h3
    clear h3
    have HLN := Aside0.mk (And.intro HL HC)
    have wl : ∀ nd, Kd.C (Kd.int .i64) (w.drewN nd) (some adl) l1.length l1 := fun nd => Kd.C_drewN HL.out nd
    have WL := Aside0.mk wl
    clear wl HLN
    cases t with
    | false =>
      simp only [Bool.false_eq_true, if_false, Option.some.injEq, Prod.mk.injEq] at h
      obtain ⟨rfl, rfl⟩ := h
      go_enter Try.func19, Try.ntmps19
      go_wp2
      repeat (go_quiet (first | ((go_at_call 46; refine (spec_meSide.calls _ _ _ HS.out).mono ?_; rintro e w' ⟨rfl, ⟨nd, rfl⟩⟩; first | exact ⟨rfl, _, World.drewN_drewN _ _ _⟩ | exact ⟨rfl, _, Eq.trans (World.drewN_drewN _ _ _) (congrArg (World.drewN _) (Nat.add_assoc _ _ _))⟩)) | ((go_at_call 50; refine (spec_l1All.calls k _ _ l1 _ _ _ _ (WL.out _) HC.out HT.out).mono ?_; rintro e w' ⟨rfl, ⟨nd, rfl⟩⟩; first | exact ⟨rfl, _, World.drewN_drewN _ _ _⟩ | exact ⟨rfl, _, Eq.trans (World.drewN_drewN _ _ _) (congrArg (World.drewN _) (Nat.add_assoc _ _ _))⟩))); try go_wp2)
      go_ret2
      exact ⟨rfl, ⟨⟨_, rfl⟩⟩⟩
    | true =>
      simp only [if_true] at h
      by_cases hs : wrap64 (wrap64 (rd l1 0 + rd l1 1) + rd l1 2) = a0
      case neg =>
        rw [if_neg hs] at h
        simp only [Option.some.injEq, Prod.mk.injEq] at h
        obtain ⟨rfl, rfl⟩ := h
        generalize rd l1 0 = q0 at hl0 hs
        generalize rd l1 1 = q1 at hl1 hs
        generalize rd l1 2 = q2 at hl2 hs
        have e3 : (wrap64 (wrap64 (q0 + q1) + q2) == a0) = false := beq_eq_false_iff_ne.mpr hs
        have e4 : (wrap64 (wrap64 (q0 + q1) + q2) != a0) = true := bne_iff_ne.mpr hs
        clear hs
        go_enter Try.func19, Try.ntmps19
        go_wp2
        repeat (go_quiet (first | ((go_at_call 46; refine (spec_meSide.calls _ _ _ HS.out).mono ?_; rintro e w' ⟨rfl, ⟨nd, rfl⟩⟩; first | exact ⟨rfl, _, World.drewN_drewN _ _ _⟩ | exact ⟨rfl, _, Eq.trans (World.drewN_drewN _ _ _) (congrArg (World.drewN _) (Nat.add_assoc _ _ _))⟩)) | ((go_at_call 50; refine (spec_l1All.calls k _ _ l1 _ _ _ _ (WL.out _) HC.out HT.out).mono ?_; rintro e w' ⟨rfl, ⟨nd, rfl⟩⟩; first | exact ⟨rfl, _, World.drewN_drewN _ _ _⟩ | exact ⟨rfl, _, Eq.trans (World.drewN_drewN _ _ _) (congrArg (World.drewN _) (Nat.add_assoc _ _ _))⟩))); try go_wp2)
        go_ret2
        exact ⟨rfl, ⟨⟨_, rfl⟩⟩⟩
      rw [if_pos hs] at h
      obtain ⟨m, hmi, h⟩ := Option.bind_eq_some_iff.mp h
      have HI := Aside0.mk hmi
      clear hmi
      simp only [Option.some.injEq, Prod.mk.injEq] at h
      obtain ⟨rfl, rfl⟩ := h
      generalize rd l1 0 = q0 at hl0 hs
      generalize rd l1 1 = q1 at hl1 hs
      generalize rd l1 2 = q2 at hl2 hs
      have e3 : (wrap64 (wrap64 (q0 + q1) + q2) == a0) = true := beq_iff_eq.mpr hs
      have e4 : (wrap64 (wrap64 (q0 + q1) + q2) != a0) = false := bne_eq_false_iff_eq.mpr hs
      clear hs
      go_enter Try.func19, Try.ntmps19
      go_wp2
      go_quiet (first | ((go_at_call 46; refine (spec_meSide.calls _ _ _ HS.out).mono ?_; rintro e w' ⟨rfl, ⟨nd, rfl⟩⟩; first | exact ⟨rfl, _, World.drewN_drewN _ _ _⟩ | exact ⟨rfl, _, Eq.trans (World.drewN_drewN _ _ _) (congrArg (World.drewN _) (Nat.add_assoc _ _ _))⟩)) | ((go_at_call 50; refine (spec_l1All.calls k _ _ l1 _ _ _ _ (WL.out _) HC.out HT.out).mono ?_; rintro e w' ⟨rfl, ⟨nd, rfl⟩⟩; first | exact ⟨rfl, _, World.drewN_drewN _ _ _⟩ | exact ⟨rfl, _, Eq.trans (World.drewN_drewN _ _ _) (congrArg (World.drewN _) (Nat.add_assoc _ _ _))⟩)))
      go_wp2_with (go_at_call 51; refine (spec_meIndex.calls _ _ _ l1 _ _ (WL.out _) HC.out HI.out).mono ?_; rintro e w' ⟨rfl, ⟨nd, rfl⟩⟩)
      go_ret2
      exact ⟨rfl, ⟨⟨_, rfl⟩⟩⟩
end Go.Proofs.Ytjcnmcbapjkmhaa.Given
