/- The reference's meNear by hand (it calls one function twice with the same argument in one round), for all ints. -/
import Derived.Test.YtcnplmajlanmdaaQx2
namespace Go.Proofs.Ytcnplmajlanmdaa.Given
open Go.Proofs.Ytcnplmajlanmdaa.Q Go.RowKit Go.Proofs.YtcnplmajlanmdaaW.PrintWords Go.Proofs.YtcnplmajlanmdaaW.PrintLast Go.Proofs.YtcnplmajlanmdaaW.PrintMore
set_option linter.unusedVariables false
set_option linter.unusedSimpArgs false

def nearL (a b : List Int) : Nat → Int → Int → Option Bool
  | 0, _, sum => some (sum == 2)
  | m + 1, i, sum => if i < (b.length : Int) then (spec_l1Abs.f (wrap64 (rd a i - rd b i))).bind fun d => if d > 1 then some false else nearL a b m (i + 1) (wrap64 (sum + d)) else none
def spec_meNear.f (k : Nat) (a0 a1 a2 : Int) : Option Bool := (spec_meAt.f k a0 a1).bind fun a => (spec_meAt.f k a0 a2).bind fun b => nearL a b a.length 0 0
theorem spec_meNear.mono : ∀ a0 a1 a2 k, LeO (spec_meNear.f k a0 a1 a2) (spec_meNear.f (k + 1) a0 a1 a2) := by
  intro a0 a1 a2 k
  unfold spec_meNear.f
  exact LeO.bind (spec_meAt.mono _ _ _) (fun _ => LeO.bind (spec_meAt.mono _ _ _) (fun _ => LeO.refl _))

set_option maxHeartbeats 4000000 in
set_option maxRecDepth 100000 in
theorem spec_meNear.calls (k : Nat) (a0 a1 a2 : Int) (r : Bool) (w : World) (h : spec_meNear.f k a0 a1 a2 = some r) :
    Calls Try.prog 54 #[.int .i64 a0, .int .i64 a1, .int .i64 a2] w fun e w' => e = .returned (.bool r) ∧ Below w.heap.size w w' := by
  obtain ⟨a, ha, h⟩ := Option.bind_eq_some_iff.mp h
  obtain ⟨b, hb, h⟩ := Option.bind_eq_some_iff.mp h
  have HA := Aside0.mk ha
  have HB := Aside0.mk hb
  have HF := Aside0.mk h
  clear ha hb h
  go_enter Try.func54, Try.ntmps54
  go_wp2_with fail
  refine (spec_meAt.calls k _ _ a _ HA.out).mono ?_
  rintro e w1 ⟨va, rfl, RA, BA⟩
  have RA := Aside0.mk RA
  have BA := Aside0.mk BA
  go_wp2_with fail
  refine (spec_meAt.calls k _ _ b _ HB.out).mono ?_
  rintro e w2 ⟨vb, rfl, RB, BB⟩
  have RA := Aside0.mk (Kd.R_below (Kd.R_bound RA.out) BB)
  have RB := Aside0.mk RB
  have BA := Aside0.mk (BA.out.trans (BB.mono BA.out.size))
  clear BB
  obtain ⟨Aa, ca, rfl⟩ := Kd.R_slice RA.out
  obtain ⟨Ab, cb, rfl⟩ := Kd.R_slice RB.out
  have CA := Aside0.mk (Kd.R_reads' RA.out).2.2
  have CB := Aside0.mk (Kd.R_reads' RB.out).2.2
  have hm := Kd.C_max CA.out
  go_wp2
  go_loopg [9, 10, 19] a.length (fun gg s9 _ s19 wr => ∃ (kk q : Nat) (s : Int), kk ≤ a.length ∧ a.length - kk ≤ gg ∧ s9 = .int .i64 s ∧ s19 = .int .i64 kk ∧ wr = w2.drewN q ∧ Aside0 (nearL a b (a.length - kk) kk s = some r))
  case atStart => exact ⟨0, 0, 0, Nat.zero_le _, by omega, rfl, rfl, rfl, ⟨HF.out⟩⟩
  case round =>
    obtain ⟨kk, q, s, hkk, hg, rfl, rfl, rfl, M⟩ := hrel
    by_cases hlt : kk < a.length
    · have hltz : (kk : Int) < (a.length : Int) := by omega
      have h := M.out
      clear M
      rw [show a.length - kk = (a.length - (kk + 1)) + 1 from by omega] at h
      simp only [nearL] at h
      have pk : 0 ≤ (kk : Int) := by omega
      by_cases hb : (kk : Int) < (b.length : Int)
      · rw [if_pos hb] at h
        obtain ⟨d, hd, h⟩ := Option.bind_eq_some_iff.mp h
        have HD := Aside0.mk hd
        clear hd
        obtain ⟨ada, e1, hxa⟩ := Kd.at_int CA.out kk pk hltz
        cases e1
        obtain ⟨adb, e1, hxb⟩ := Kd.at_int CB.out kk pk hb
        cases e1
        simp only [Int.toNat_natCast] at hxa hxb
        by_cases hd1 : d > 1
        · rw [if_pos hd1] at h
          have e2 : decide (1 < d) = true := decide_eq_true hd1
          clear hd1
          obtain rfl := Option.some.inj h
          clear h
          go_wp2
          repeat (go_quiet ((go_at_call 77; refine (spec_l1Abs.calls _ _ _ HD.out).mono ?_; rintro e w' ⟨rfl, ⟨nd, rfl⟩⟩; first | exact ⟨rfl, _, World.drewN_drewN _ _ _⟩ | exact ⟨rfl, _, Eq.trans (World.drewN_drewN _ _ _) (congrArg (World.drewN _) (Nat.add_assoc _ _ _))⟩)); try go_wp2)
          go_ret
          exact ⟨rfl, by repeat (first | exact BA.out | apply pw_below_drewN)⟩
        · rw [if_neg hd1] at h
          have e2 : decide (1 < d) = false := decide_eq_false hd1
          clear hd1
          have M := Aside0.mk h
          clear h
          go_wp2
          repeat (go_quiet ((go_at_call 77; refine (spec_l1Abs.calls _ _ _ HD.out).mono ?_; rintro e w' ⟨rfl, ⟨nd, rfl⟩⟩; first | exact ⟨rfl, _, World.drewN_drewN _ _ _⟩ | exact ⟨rfl, _, Eq.trans (World.drewN_drewN _ _ _) (congrArg (World.drewN _) (Nat.add_assoc _ _ _))⟩)); try go_wp2)
          go_roundg (a.length - (kk + 1))
          case measure => omega
          case rel => exact ⟨kk + 1, _, _, by omega, by omega, rfl, by go_num, rfl, ⟨by simpa using M.out⟩⟩
      · rw [if_neg hb] at h; cases h
    · have hltz : ¬ (kk : Int) < (a.length : Int) := by omega
      obtain rfl : kk = a.length := by omega
      have h := M.out
      rw [Nat.sub_self] at h
      simp only [nearL] at h
      obtain rfl := Option.some.inj h
      clear M h
      go_wp2
      go_ret
      exact ⟨rfl, by repeat (first | exact BA.out | apply pw_below_drewN)⟩
end Go.Proofs.Ytcnplmajlanmdaa.Given
