/- impl.PointAt by hand (its result is a slice of an array's own block); for all ints. -/
import Derived.Test.YtjcnmcbapjkmhaaQx1
import Derived.Test.YtjcnmcbapjkmhaaGf
import Derived.Lib.Walk
import Derived.Outline
namespace Go.Proofs.Ytjcnmcbapjkmhaa.Given
open Go.Proofs.Ytjcnmcbapjkmhaa.Q Go.RowKit Go.Proofs.YtjcnmcbapjkmhaaW.PrintWords Go.Proofs.YtjcnmcbapjkmhaaW.PrintLast Go.Proofs.YtjcnmcbapjkmhaaW.PrintMore
set_option linter.unusedVariables false
set_option linter.unusedSimpArgs false

def impl_PointAt.f (k : Nat) (a0 a1 : Int) : Option (List Int × Bool) := (impl_isPoint.f a0 [a1]).bind fun b => if b = true then ((impl_points.f k a0).bind fun ps => if 0 ≤ a1 ∧ a1 < (ps.length : Int) then some ([(rd_T47 ps a1).f0, (rd_T47 ps a1).f1, (rd_T47 ps a1).f2], true) else none) else some ([], false)
theorem impl_PointAt.mono : ∀ a0 a1 k, LeO (impl_PointAt.f k a0 a1) (impl_PointAt.f (k + 1) a0 a1) := by
  intro a0 a1 k
  unfold impl_PointAt.f
  exact LeO.bind (LeO.refl _) (fun _ => LeO.ite (LeO.bind (impl_points.mono _ _) (fun _ => LeO.refl _)) (LeO.refl _))

/-- A block of three numbers, as a row of one's own. -/
theorem arr3 (w W : World) (B g : Nat) (x y z : Int) (hB : B ≤ g) (hg : W.heap[g]? = some (.cells #[.int .i64 x, .int .i64 y, .int .i64 z] 47 (0, 0))) : Kd.R (Kd.int .i64) 47 W B (fun _ => True) (.slice (some ⟨g, 0, none⟩) 3 3) [x, y, z] := by
  refine ⟨fun _ _ => trivial, [.int .i64 x, .int .i64 y, .int .i64 z], ⟨rfl, .inr ⟨g, 3, #[.int .i64 x, .int .i64 y, .int .i64 z], rfl, hB, hg, ?_, ?_, ?_, ?_⟩⟩, ?_⟩
  · show 3 ≤ 3
    omega
  · decide
  · rfl
  · rfl
  · refine ⟨rfl, fun j q hj => ?_⟩
    match j, hj with
    | 0, hj => obtain rfl := Option.some.inj hj; exact rfl
    | 1, hj => obtain rfl := Option.some.inj hj; exact rfl
    | 2, hj => obtain rfl := Option.some.inj hj; exact rfl
    | j + 3, hj => simp at hj

set_option maxHeartbeats 4000000 in
set_option maxRecDepth 100000 in
theorem impl_PointAt.calls (k : Nat) (a0 a1 : Int) (r1 : List Int) (r2 : Bool) (w : World) (h : impl_PointAt.f k a0 a1 = some (r1, r2)) :
    Calls Try.prog 22 #[.int .i64 a0, .int .i64 a1] w fun e w' => ∃ v0_ : Value, e = .returned (.tuple #[v0_, .bool r2]) ∧ Kd.R (Kd.int .i64) 47 w' w.heap.size (fun _ => True) v0_ r1 ∧ Below w.heap.size w w' := by
  obtain ⟨b, hb, h⟩ := Option.bind_eq_some_iff.mp h
  have HP := Aside0.mk hb
  clear hb
  have LI := Aside0.mk (lit1 w a1)
  have BL := Aside0.mk (below_alloc (Below.refl w.heap.size w) (.cells #[.int .i64 a1] 3))
  cases b with
  | false =>
    simp only [Bool.false_eq_true, if_false, Option.some.injEq, Prod.mk.injEq] at h
    obtain ⟨rfl, rfl⟩ := h
    go_enter Try.func22, Try.ntmps22
    go_wp2_with fail
    refine (impl_isPoint.calls _ _ _ [a1] _ _ LI.out (by simp) HP.out).mono ?_
    rintro e w1 ⟨rfl, B1⟩
    have B1 := Aside0.mk (BL.out.trans (B1.mono BL.out.size))
    go_wp2_with fail
    go_ret2
    exact ⟨_, rfl, Kd.R_nil _ _ _ _ _, B1.out⟩
  | true =>
    simp only [if_true] at h
    obtain ⟨ps, hps, h⟩ := Option.bind_eq_some_iff.mp h
    have HPS := Aside0.mk hps
    clear hps
    by_cases hc : 0 ≤ a1 ∧ a1 < (ps.length : Int)
    case neg => rw [if_neg hc] at h; cases h
    rw [if_pos hc] at h
    simp only [Option.some.injEq, Prod.mk.injEq] at h
    obtain ⟨hr, rfl⟩ := h
    have HR := Aside0.mk hr
    clear hr
    obtain ⟨i0, i1⟩ := hc
    have hu := Try.underlying47
    go_enter Try.func22, Try.ntmps22
    go_wp2_with fail
    refine (impl_isPoint.calls _ _ _ [a1] _ _ LI.out (by simp) HP.out).mono ?_
    rintro e w1 ⟨rfl, B1⟩
    have B1 := Aside0.mk (BL.out.trans (B1.mono BL.out.size))
    go_wp2_with fail
    refine (impl_points.calls k _ ps _ HPS.out).mono ?_
    rintro e w3 ⟨vp, rfl, RP, B3⟩
    have RP := Aside0.mk RP
    have B3 := Aside0.mk (B1.out.trans (B3.mono B1.out.size))
    obtain ⟨Ap, cp, rfl⟩ := Kd.R_slice RP.out
    obtain ⟨adp, e1, hx0, hx1, hx2⟩ := at_T47 (Kd.R_reads' RP.out).2.2 a1 i0 i1
    cases e1
    generalize rd_T47 ps a1 = p at hx0 hx1 hx2 HR
    go_wp2
    go_ret2
    rw [← HR.out]
    refine ⟨_, rfl, arr3 w _ _ w3.heap.size p.f0 p.f1 p.f2 B3.out.size ?_, ?_⟩
    · show (w3.heap.push _)[w3.heap.size]? = _
      simp
    · repeat (first | exact B3.out | apply pw_below_drewN | apply below_drew1 | apply below_alloc)
end Go.Proofs.Ytjcnmcbapjkmhaa.Given
