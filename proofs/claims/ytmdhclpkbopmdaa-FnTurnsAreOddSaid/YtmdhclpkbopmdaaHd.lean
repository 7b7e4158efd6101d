/- The reference's Draw functions by hand (a reader made here and handed on by pointer); for all bytes. -/
import Derived.Test.YtmdhclpkbopmdaaQx1
import Derived.Test.YtmdhclpkbopmdaaQx2
import Derived.Lib.Walk
import Derived.Outline
namespace Go.Proofs.Ytmdhclpkbopmdaa.Given
open Go.Proofs.Ytmdhclpkbopmdaa.Q Go.RowKit Go.Proofs.YtmdhclpkbopmdaaW.PrintWords Go.Proofs.YtmdhclpkbopmdaaW.PrintLast Go.Proofs.YtmdhclpkbopmdaaW.PrintMore
set_option linter.unusedVariables false
set_option linter.unusedSimpArgs false

def spec_DrawCountSquare.f (l0 : List Int) : Option Int := (spec_l1Cur_pick.f l0 0 0 7).bind fun t => some (wrap64 (t.1 - 1))
set_option maxHeartbeats 2000000 in
theorem spec_DrawCountSquare.calls (A0 : Option Addr) (c0 : Nat) (l0 : List Int) (r : Int) (w : World) (hr0 : Kd.C (Kd.int .u8) w A0 l0.length l0) (hc0 : l0.length ≤ c0) (h : spec_DrawCountSquare.f l0 = some r) :
    Calls Try.prog 95 #[.slice A0 l0.length c0] w fun e w' => e = .returned (.int .i64 r) ∧ Below w.heap.size w w' := by
  obtain ⟨⟨t1, t2, t3⟩, ht, h⟩ := Option.bind_eq_some_iff.mp h
  obtain rfl := Option.some.inj h
  have hu := Try.underlying77
  have HT := Aside0.mk ht
  have HI := Aside0.mk (IsS77.new w w A0 c0 l0 0 0 (Below.refl _ _) hr0)
  have HB := Aside0.mk (below_alloc (Below.refl w.heap.size w) (.cells #[.slice A0 l0.length c0, .int .i64 0, .int .u64 0] 77))
  clear ht hr0 hc0 h
  go_enter Try.func95, Try.ntmps95
  go_wp2_with fail
  refine (spec_l1Cur_pick.calls w.heap.size l0 0 0 7 t1 t2 t3 w _ HI.out HB.out HT.out).mono ?_
  rintro e w2 ⟨rfl, I2, B2, K2⟩
  have B2 := Aside0.mk B2
  clear I2 K2
  go_wp2
  go_ret
  exact ⟨rfl, B2.out⟩

def spec_DrawSquareAt.f (l0 : List Int) : Option (Int × Int) := (spec_l1Cur_pick.f l0 0 0 7).bind fun t => (spec_l1Cur_pick.f l0 t.2.1 t.2.2 50).bind fun u => some (wrap64 (t.1 - 1), wrap64 (u.1 - 1))
set_option maxHeartbeats 2000000 in
theorem spec_DrawSquareAt.calls (A0 : Option Addr) (c0 : Nat) (l0 : List Int) (r1 r2 : Int) (w : World) (hr0 : Kd.C (Kd.int .u8) w A0 l0.length l0) (hc0 : l0.length ≤ c0) (h : spec_DrawSquareAt.f l0 = some (r1, r2)) :
    Calls Try.prog 45 #[.slice A0 l0.length c0] w fun e w' => e = .returned (.tuple #[.int .i64 r1, .int .i64 r2]) ∧ Below w.heap.size w w' := by
  obtain ⟨⟨t1, t2, t3⟩, ht, h⟩ := Option.bind_eq_some_iff.mp h
  obtain ⟨⟨u1, u2, u3⟩, hu1, h⟩ := Option.bind_eq_some_iff.mp h
  obtain ⟨rfl, rfl⟩ := Prod.mk.inj (Option.some.inj h)
  have hu := Try.underlying77
  have HT := Aside0.mk ht
  have HU := Aside0.mk hu1
  have HI := Aside0.mk (IsS77.new w w A0 c0 l0 0 0 (Below.refl _ _) hr0)
  have HB := Aside0.mk (below_alloc (Below.refl w.heap.size w) (.cells #[.slice A0 l0.length c0, .int .i64 0, .int .u64 0] 77))
  clear ht hu1 hr0 hc0 h
  go_enter Try.func45, Try.ntmps45
  go_wp2_with fail
  refine (spec_l1Cur_pick.calls w.heap.size l0 0 0 7 t1 t2 t3 w _ HI.out HB.out HT.out).mono ?_
  rintro e w2 ⟨rfl, I2, B2, K2⟩
  have I2 := Aside0.mk I2
  have B2 := Aside0.mk B2
  clear K2
  go_wp2_with fail
  refine (spec_l1Cur_pick.calls w.heap.size l0 t2 t3 50 u1 u2 u3 w _ I2.out B2.out HU.out).mono ?_
  rintro e w3 ⟨rfl, I3, B3, K3⟩
  have B3 := Aside0.mk B3
  clear I3 K3
  go_wp2
  go_ret2
  exact ⟨rfl, B3.out⟩

def spec_DrawSquareIndex.f (l0 : List Int) : Option (Int × Int × Int) := (spec_l1Cur_pick.f l0 0 0 7).bind fun t => (spec_l1Cur_pick.f l0 t.2.1 t.2.2 9).bind fun u => (spec_l1Cur_pick.f l0 u.2.1 u.2.2 9).bind fun v => some (wrap64 (t.1 - 1), wrap64 (u.1 - 4), wrap64 (v.1 - 4))
set_option maxHeartbeats 2000000 in
theorem spec_DrawSquareIndex.calls (A0 : Option Addr) (c0 : Nat) (l0 : List Int) (r1 r2 r3 : Int) (w : World) (hr0 : Kd.C (Kd.int .u8) w A0 l0.length l0) (hc0 : l0.length ≤ c0) (h : spec_DrawSquareIndex.f l0 = some (r1, r2, r3)) :
    Calls Try.prog 50 #[.slice A0 l0.length c0] w fun e w' => e = .returned (.tuple #[.int .i64 r1, .int .i64 r2, .int .i64 r3]) ∧ Below w.heap.size w w' := by
  obtain ⟨⟨t1, t2, t3⟩, ht, h⟩ := Option.bind_eq_some_iff.mp h
  obtain ⟨⟨u1, u2, u3⟩, hu1, h⟩ := Option.bind_eq_some_iff.mp h
  obtain ⟨⟨v1, v2, v3⟩, hv1, h⟩ := Option.bind_eq_some_iff.mp h
  simp only [Option.some.injEq, Prod.mk.injEq] at h
  obtain ⟨rfl, rfl, rfl⟩ := h
  have hu := Try.underlying77
  have HT := Aside0.mk ht
  have HU := Aside0.mk hu1
  have HV := Aside0.mk hv1
  have HI := Aside0.mk (IsS77.new w w A0 c0 l0 0 0 (Below.refl _ _) hr0)
  have HB := Aside0.mk (below_alloc (Below.refl w.heap.size w) (.cells #[.slice A0 l0.length c0, .int .i64 0, .int .u64 0] 77))
  clear ht hu1 hv1 hr0 hc0 h
  go_enter Try.func50, Try.ntmps50
  go_wp2_with fail
  refine (spec_l1Cur_pick.calls w.heap.size l0 0 0 7 t1 t2 t3 w _ HI.out HB.out HT.out).mono ?_
  rintro e w2 ⟨rfl, I2, B2, K2⟩
  have I2 := Aside0.mk I2
  have B2 := Aside0.mk B2
  clear K2
  go_wp2_with fail
  refine (spec_l1Cur_pick.calls w.heap.size l0 t2 t3 9 u1 u2 u3 w _ I2.out B2.out HU.out).mono ?_
  rintro e w3 ⟨rfl, I3, B3, K3⟩
  have I3 := Aside0.mk I3
  have B3 := Aside0.mk B3
  clear K3
  go_wp2_with fail
  refine (spec_l1Cur_pick.calls w.heap.size l0 u2 u3 9 v1 v2 v3 w _ I3.out B3.out HV.out).mono ?_
  rintro e w4 ⟨rfl, I4, B4, K4⟩
  have B4 := Aside0.mk B4
  clear I4 K4
  go_wp2
  go_ret3
  exact ⟨rfl, B4.out⟩

def spec_DrawAreOpposite.f (k : Nat) (l0 : List Int) : Option (Int × List Int) := (spec_l1Cur_opposite.f k l0 0 0).bind fun t => some (t.1, t.2.1)
theorem spec_DrawAreOpposite.mono : ∀ a0 k, LeO (spec_DrawAreOpposite.f k a0) (spec_DrawAreOpposite.f (k + 1) a0) := by
  intro a0 k
  unfold spec_DrawAreOpposite.f
  exact LeO.bind (spec_l1Cur_opposite.mono _ _ _ _) (fun _ => LeO.refl _)
set_option maxHeartbeats 2000000 in
theorem spec_DrawAreOpposite.calls (k : Nat) (A0 : Option Addr) (c0 : Nat) (l0 : List Int) (r1 : Int) (r2 : List Int) (w : World) (hr0 : Kd.C (Kd.int .u8) w A0 l0.length l0) (hc0 : l0.length ≤ c0) (h : spec_DrawAreOpposite.f k l0 = some (r1, r2)) :
    Calls Try.prog 97 #[.slice A0 l0.length c0] w fun e w' => ∃ v1_ : Value, e = .returned (.tuple #[.int .i64 r1, v1_]) ∧ Kd.R (Kd.int .i64) 3 w' w.heap.size (fun _ => True) v1_ r2 ∧ Below w.heap.size w w' := by
  obtain ⟨⟨t1, t2, t3, t4⟩, ht, h⟩ := Option.bind_eq_some_iff.mp h
  obtain ⟨rfl, rfl⟩ := Prod.mk.inj (Option.some.inj h)
  have hu := Try.underlying77
  have HT := Aside0.mk ht
  have HI := Aside0.mk (IsS77.new w w A0 c0 l0 0 0 (Below.refl _ _) hr0)
  have HB := Aside0.mk (below_alloc (Below.refl w.heap.size w) (.cells #[.slice A0 l0.length c0, .int .i64 0, .int .u64 0] 77))
  clear ht hr0 hc0 h
  go_enter Try.func97, Try.ntmps97
  go_wp2_with fail
  refine (spec_l1Cur_opposite.calls k w.heap.size l0 0 0 t1 t2 t3 t4 w _ HI.out HB.out HT.out).mono ?_
  rintro e w2 ⟨v, rfl, R2, I2, B2, K2⟩
  have R2 := Aside0.mk R2
  have B2 := Aside0.mk B2
  clear I2 K2
  go_wp2
  go_ret2
  exact ⟨_, rfl, Kd.R_lower R2.out (by simp), B2.out⟩
end Go.Proofs.Ytmdhclpkbopmdaa.Given
