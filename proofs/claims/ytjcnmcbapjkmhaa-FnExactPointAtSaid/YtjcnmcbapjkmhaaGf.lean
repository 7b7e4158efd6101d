/- impl.SidesOf by hand (it ranges over an array); for all ints. -/
import Derived.Test.YtjcnmcbapjkmhaaQx1
import Derived.Test.YtjcnmcbapjkmhaaGd
import Derived.Lib.Walk
import Derived.Outline
namespace Go.Proofs.Ytjcnmcbapjkmhaa.Given
open Go.Proofs.Ytjcnmcbapjkmhaa.Q Go.RowKit Go.Proofs.YtjcnmcbapjkmhaaW.PrintWords Go.Proofs.YtjcnmcbapjkmhaaW.PrintLast Go.Proofs.YtjcnmcbapjkmhaaW.PrintMore
set_option linter.unusedVariables false
set_option linter.unusedSimpArgs false

/-- A literal slice of one number reads as the list of it. -/
theorem lit1 (w : World) (i : Int) : Kd.C (Kd.int .i64) (w.alloc (.cells #[.int .i64 i] 3)) (some ⟨w.heap.size, 0, none⟩) [i].length [i] :=
  Kd.C_of_reads (d := (0 : Int)) (h1 := fun _ => rfl) (show ReadsInt _ .i64 _ _ _ from ⟨rfl, by simp, fun _ => ⟨_, rfl, fun j hj => by
    obtain rfl : j = 0 := by simpa using hj
    show (w.alloc (.cells #[.int .i64 i] 3)).cell? ⟨w.heap.size, 0, none⟩ = some (.int .i64 i)
    go_simp⟩⟩)

/-- An empty literal slice. -/
theorem lit0 (w : World) (B : Nat) (ok : Nat → Prop) (hB : B ≤ w.heap.size) (ho : ok w.heap.size) : Kd.R (Kd.int .i64) 3 (w.alloc (.cells #[] 3)) B ok (.slice (some ⟨w.heap.size, 0, none⟩) 0 0) [] :=
  ⟨fun k hk => by simp [Value.ownBlock] at hk; subst hk; exact ho, [], ⟨rfl, .inr ⟨w.heap.size, 0, #[], rfl, hB, by show (w.heap.push _)[w.heap.size]? = _; simp, Nat.le_refl _, Nat.zero_le _, rfl, rfl⟩⟩, Reps.none _ _⟩

def sidesTo (p : Nat → Int) : Nat → List Int
  | 0 => []
  | k + 1 => if p k = 0 then sidesTo p k ++ [(k : Int)] else sidesTo p k
theorem sidesTo_le (p : Nat → Int) (k : Nat) : (sidesTo p k).length ≤ k := by
  induction k with
  | zero => simp [sidesTo]
  | succ k ih => simp only [sidesTo]; split <;> (try simp) <;> omega
def impl_SidesOf.f (k : Nat) (a0 a1 : Int) : Option (List Int × Bool) := (impl_isPoint.f a0 [a1]).bind fun b => if b = true then ((impl_points.f k a0).bind fun ps => if 0 ≤ a1 ∧ a1 < (ps.length : Int) then some (sidesTo (nearP (rd_T47 ps a1).f0 (rd_T47 ps a1).f1 (rd_T47 ps a1).f2) 3, true) else none) else some ([], false)
theorem impl_SidesOf.mono : ∀ a0 a1 k, LeO (impl_SidesOf.f k a0 a1) (impl_SidesOf.f (k + 1) a0 a1) := by
  intro a0 a1 k
  unfold impl_SidesOf.f
  exact LeO.bind (LeO.refl _) (fun _ => LeO.ite (LeO.bind (impl_points.mono _ _) (fun _ => LeO.refl _)) (LeO.refl _))

theorem ix3 (a b c : Int) (k : Nat) (hk : k < 3) : ∀ w, (Instr.index 47 (.agg #[.int .i64 a, .int .i64 b, .int .i64 c]) (.int .i64 k)).run Try.prog w = .ok (.int .i64 (nearP a b c k)) w := by
  intro w
  obtain rfl | rfl | rfl : k = 0 ∨ k = 1 ∨ k = 2 := by omega
  all_goals kernel_rfl

theorem infoI : (Try.prog.info? 3).map (fun i => (i.zero, i.size, i.bytes)) = some (some (.int .i64 0), 1, 8) := by kernel_rfl

set_option maxHeartbeats 4000000 in
set_option maxRecDepth 100000 in
theorem impl_SidesOf.calls (k : Nat) (a0 a1 : Int) (r1 : List Int) (r2 : Bool) (w : World) (h : impl_SidesOf.f k a0 a1 = some (r1, r2)) :
    Calls Try.prog 28 #[.int .i64 a0, .int .i64 a1] w fun e w' => ∃ v0_ : Value, e = .returned (.tuple #[v0_, .bool r2]) ∧ Kd.R (Kd.int .i64) 3 w' w.heap.size (fun _ => True) v0_ r1 ∧ Below w.heap.size w w' := by
  obtain ⟨b, hb, h⟩ := Option.bind_eq_some_iff.mp h
  have HP := Aside0.mk hb
  clear hb
  have LI := Aside0.mk (lit1 w a1)
  have BL := Aside0.mk (below_alloc (Below.refl w.heap.size w) (.cells #[.int .i64 a1] 3))
  cases b with
  | false =>
    simp only [Bool.false_eq_true, if_false, Option.some.injEq, Prod.mk.injEq] at h
    obtain ⟨rfl, rfl⟩ := h
    go_enter Try.func28, Try.ntmps28
    go_wp2_with fail
    refine (impl_isPoint.calls _ _ _ [a1] _ _ LI.out (by simp) HP.out).mono ?_
    rintro e w1 ⟨rfl, B1⟩
    have B1 := Aside0.mk (BL.out.trans (B1.mono BL.out.size))
    go_wp2_with fail
    go_ret2
    exact ⟨_, rfl, Kd.R_nil _ _ _ _ _, B1.out⟩
  | true =>
    simp only [if_true] at h
    obtain ⟨ps, hps, h⟩ := Option.bind_eq_some_iff.mp h
    have HPS := Aside0.mk hps
    clear hps
    by_cases hc : 0 ≤ a1 ∧ a1 < (ps.length : Int)
    case neg => rw [if_neg hc] at h; cases h
    rw [if_pos hc] at h
    simp only [Option.some.injEq, Prod.mk.injEq] at h
    obtain ⟨hr, rfl⟩ := h
    have HR := Aside0.mk hr
    clear hr
    obtain ⟨i0, i1⟩ := hc
    go_enter Try.func28, Try.ntmps28
    go_wp2_with fail
    refine (impl_isPoint.calls _ _ _ [a1] _ _ LI.out (by simp) HP.out).mono ?_
    rintro e w1 ⟨rfl, B1⟩
    have B1 := Aside0.mk (BL.out.trans (B1.mono BL.out.size))
    go_wp2_with fail
    have RO := Aside0.mk (lit0 w1 w.heap.size (fun _ => True) B1.out.size trivial)
    have B2 := Aside0.mk (below_alloc B1.out (.cells #[] 3))
    have hBn : w1.heap.size < (w1.alloc (.cells #[] 3)).heap.size := by simp
    have hge := B1.out.size
    generalize (w1.alloc (.cells #[] 3)) = w2 at RO B2 hBn ⊢
    refine (impl_points.calls k _ ps _ HPS.out).mono ?_
    rintro e w3 ⟨vp, rfl, RP, B3⟩
    have RO := Aside0.mk (Kd.R_below (Kd.R_bound RO.out) B3)
    have RP := Aside0.mk RP
    have B3 := Aside0.mk (B2.out.trans (B3.mono B2.out.size))
    obtain ⟨Ap, cp, rfl⟩ := Kd.R_slice RP.out
    obtain ⟨adp, e1, hx0, hx1, hx2⟩ := at_T47 (Kd.R_reads' RP.out).2.2 a1 i0 i1
    cases e1
    generalize rd_T47 ps a1 = p at hx0 hx1 hx2 HR
    have HX := Aside0.mk (fun (k : Nat) (hk : k < 3) => ix3 p.f0 p.f1 p.f2 k hk)
    go_wp2
    go_loopg [6, 7, 8, 20] 3 (fun gg s6 _ _ s20 wr => ∃ kk : Nat, kk ≤ 3 ∧ 3 - kk ≤ gg ∧ s20 = .int .i64 kk ∧ Aside0 (Kd.R (Kd.int .i64) 3 wr w.heap.size (fun _ => True) s6 (sidesTo (nearP p.f0 p.f1 p.f2) kk)) ∧ Aside0 (Below w.heap.size w wr))
    case atStart => exact ⟨0, by omega, by omega, rfl, ⟨Kd.R_mono RO.out (fun _ _ => trivial)⟩, B3⟩
    case round =>
      obtain ⟨kk, hkk, hg, rfl, RO, BB⟩ := hrel
      by_cases hlt : kk < 3
      · have hltz : decide ((kk : Int) < 3) = true := by simp; omega
        have hix := HX.out kk hlt
        have LE := Aside0.mk (sidesTo_le (nearP p.f0 p.f1 p.f2) kk)
        generalize hl : sidesTo (nearP p.f0 p.f1 p.f2) kk = l at RO LE
        generalize hx : nearP p.f0 p.f1 p.f2 kk = x at hix
        have HLX := Aside0.mk (And.intro hl hx)
        clear hl hx
        by_cases hz : x = 0
        · have e1 : (x == 0) = true := beq_iff_eq.mpr hz
          have HZ := Aside0.mk hz
          clear hz
          go_wp2_with (at_builtin; refine Kd.R_append (Kd.int .i64) (w0 := w) w.heap.size rfl (.tmp 26) (.tmp 28) 22 3 (.int .i64 0) 8 rfl Try.underlying22 infoI rfl (by decide) (by omega) u6 l kk [.int .i64 kk] (fun _ => True) (fun _ => False) rfl rfl ?aP (fun _ hk => hk.elim) ?aF ?aO ?aB ?aS ?aL ?_; (case aP => exact rfl); (case aB => exact (by repeat (first | exact BB.out | apply below_alloc | apply pw_below_drewN | apply below_drew1))); (case aF => exact (fun k_ hk => trivial)); (case aO => exact (by (with_reducible repeat (first | apply Kd.R_alloc | apply Kd.R_drewN | apply Kd.R_drew)); exact RO.out)); (case aS => exact (below_size (by repeat (first | exact BB.out | apply below_alloc | apply pw_below_drewN | apply below_drew1)))); (case aL => have := LE.out; omega); intro v220 w11 ho hb hg hat)
          go_roundg (3 - (kk + 1))
          case measure => omega
          case rel =>
            refine ⟨kk + 1, by omega, by omega, by go_num, ⟨?_⟩, ⟨hb⟩⟩
            have e : sidesTo (nearP p.f0 p.f1 p.f2) (kk + 1) = l ++ [(kk : Int)] := by
              simp only [sidesTo]
              rw [HLX.out.1, HLX.out.2, HZ.out, if_pos rfl]
            rw [e]
            exact Kd.R_mono ho (fun _ _ => trivial)
        · have e1 : (x == 0) = false := beq_eq_false_iff_ne.mpr hz
          have HZ := Aside0.mk hz
          clear hz
          go_wp2
          go_roundg (3 - (kk + 1))
          case measure => omega
          case rel =>
            refine ⟨kk + 1, by omega, by omega, by go_num, ⟨?_⟩, BB⟩
            have e : sidesTo (nearP p.f0 p.f1 p.f2) (kk + 1) = l := by
              simp only [sidesTo]
              rw [HLX.out.1, HLX.out.2, if_neg HZ.out]
            rw [e]
            exact RO.out
      · have hltz : decide ((kk : Int) < 3) = false := by simp; omega
        obtain rfl : kk = 3 := by omega
        rw [HR.out] at RO
        go_wp2
        go_ret2
        exact ⟨_, rfl, RO.out, BB.out⟩
end Go.Proofs.Ytjcnmcbapjkmhaa.Given
