/- impl.firstBroken, impl.isUp: they read the places of points by numbers; by hand, for all slices that read as lists. -/
import Derived.Test.YtjcnmcbapjkmhaaQx1
import Derived.Test.YtjcnmcbapjkmhaaGa
import Derived.Lib.Walk
import Derived.WalkLawsBesides
import Derived.Shelf.Abstract
namespace Go.Proofs.Ytjcnmcbapjkmhaa.Given
open Go.Proofs.Ytjcnmcbapjkmhaa.Q Go.RowKit Go.Proofs.YtjcnmcbapjkmhaaW.PrintWords Go.Proofs.YtjcnmcbapjkmhaaW.PrintLast Go.Proofs.YtjcnmcbapjkmhaaW.PrintMore
set_option linter.unusedVariables false
set_option linter.unusedSimpArgs false

/-- The place x of a point. -/
def plc (p : S47) (x : Int) : Int := nearP p.f0 p.f1 p.f2 x.toNat

theorem at_plc {w : World} {A : Option Addr} {l : List S47} (h : Kd.C k47 w A l.length l) (i x : Int) (h0 : 0 ≤ i) (h1 : i < l.length) (h2 : 0 ≤ x) (h3 : x < 3) :
    ∃ ad, A = some ad ∧ w.cell? ((ad.add (i.toNat * 3)).add x.toNat) = some (.int .i64 (plc (rd_T47 l i) x)) := by
  obtain ⟨ad, e, hx0, hx1, hx2⟩ := at_T47 h i h0 h1
  refine ⟨ad, e, ?_⟩
  obtain rfl | rfl | rfl : x = 0 ∨ x = 1 ∨ x = 2 := by omega
  · exact hx0
  · exact hx1
  · exact hx2

def brokenL (ps : List S47) (ls : List Int) : Nat → Int → Option Int
  | 0, _ => some (-1)
  | m + 1, i => if i < (ps.length : Int) then (if 0 ≤ rd ls i then (if rd ls i < 3 then (if plc (rd_T47 ps i) (rd ls i) = 0 then some i else brokenL ps ls m (i + 1)) else none) else none) else none
def impl_firstBroken.f (k : Nat) (a0 : Int) (l1 : List Int) : Option Int := (impl_points.f k a0).bind fun ps => brokenL ps l1 l1.length 0
theorem impl_firstBroken.mono : ∀ a0 a1 k, LeO (impl_firstBroken.f k a0 a1) (impl_firstBroken.f (k + 1) a0 a1) := by
  intro a0 a1 k
  unfold impl_firstBroken.f
  exact LeO.bind (impl_points.mono _ _) (fun _ => LeO.refl _)

set_option maxHeartbeats 4000000 in
set_option maxRecDepth 100000 in
theorem impl_firstBroken.calls (k : Nat) (a0 : Int) (A1 : Option Addr) (c1 : Nat) (l1 : List Int) (r : Int) (w : World) (hr1 : Kd.C (Kd.int .i64) w A1 l1.length l1) (hc1 : l1.length ≤ c1) (h : impl_firstBroken.f k a0 l1 = some r) :
    Calls Try.prog 61 #[.int .i64 a0, .slice A1 l1.length c1] w fun e w' => e = .returned (.int .i64 r) ∧ Below w.heap.size w w' := by
  obtain ⟨ps, hps, h⟩ := Option.bind_eq_some_iff.mp h
  have HP := Aside0.mk hps
  have HF := Aside0.mk h
  have HL := Aside0.mk hr1
  have HC := Aside0.mk hc1
  have hm := Kd.C_max hr1
  clear hps h hr1 hc1
  have hu := Try.underlying47
  go_enter Try.func61, Try.ntmps61
  go_wp2_with fail
  refine (impl_points.calls k _ ps _ HP.out).mono ?_
  rintro e w1 ⟨va, rfl, RA, BA⟩
  have RA := Aside0.mk RA
  have BA := Aside0.mk BA
  have HL := Aside0.mk (Kd.C_below HL.out BA.out)
  obtain ⟨Aa, ca, rfl⟩ := Kd.R_slice RA.out
  have CA := Aside0.mk (Kd.R_reads' RA.out).2.2
  have hmp := Kd.C_max CA.out
  go_wp2
  go_loopg [4, 6, 7, 12] l1.length (fun gg s4 _ _ s12 wr => ∃ kk : Nat, kk ≤ l1.length ∧ l1.length - kk ≤ gg ∧ s4 = .int .i64 0 ∧ s12 = .int .i64 kk ∧ wr = w1 ∧ Aside0 (brokenL ps l1 (l1.length - kk) kk = some r))
  case atStart => exact ⟨0, Nat.zero_le _, by omega, rfl, rfl, rfl, ⟨HF.out⟩⟩
  case round =>
    obtain ⟨kk, hkk, hg, rfl, rfl, rfl, M⟩ := hrel
    by_cases hlt : kk < l1.length
    · have hltz : (kk : Int) < (l1.length : Int) := by omega
      have h := M.out
      clear M
      rw [show l1.length - kk = (l1.length - (kk + 1)) + 1 from by omega] at h
      simp only [brokenL] at h
      have pk : 0 ≤ (kk : Int) := by omega
      by_cases hb : (kk : Int) < (ps.length : Int)
      · rw [if_pos hb] at h
        by_cases x0 : 0 ≤ rd l1 kk
        · rw [if_pos x0] at h
          by_cases x3 : rd l1 kk < 3
          · rw [if_pos x3] at h
            obtain ⟨adl, e1, hxl⟩ := Kd.at_int HL.out kk pk hltz
            cases e1
            obtain ⟨adp, e1, hxp⟩ := at_plc CA.out kk (rd l1 kk) pk hb x0 x3
            cases e1
            simp only [Int.toNat_natCast] at hxl hxp
            generalize rd l1 kk = x at hxl hxp x0 x3 h
            by_cases hd : plc (rd_T47 ps kk) x = 0
            · rw [if_pos hd] at h
              rw [hd] at hxp
              obtain rfl := Option.some.inj h
              clear h hd
              go_wp2
              go_ret
              exact ⟨rfl, BA.out⟩
            · rw [if_neg hd] at h
              have e2 : (plc (rd_T47 ps kk) x == 0) = false := beq_eq_false_iff_ne.mpr hd
              clear hd
              have M := Aside0.mk h
              clear h
              go_wp2
              go_roundg (l1.length - (kk + 1))
              case measure => omega
              case rel => exact ⟨kk + 1, by omega, by omega, rfl, by go_num, rfl, ⟨by simpa using M.out⟩⟩
          · rw [if_neg x3] at h; cases h
        · rw [if_neg x0] at h; cases h
      · rw [if_neg hb] at h; cases h
    · have hltz : ¬ (kk : Int) < (l1.length : Int) := by omega
      obtain rfl : kk = l1.length := by omega
      have h := M.out
      rw [Nat.sub_self] at h
      simp only [brokenL] at h
      obtain rfl := Option.some.inj h
      clear M h
      go_wp2
      go_ret
      exact ⟨rfl, BA.out⟩
def upM (p0 p1 p2 : S47) (k : Nat) : Int := min (min (plc p0 k) (plc p1 k)) (plc p2 k)
def upS (p0 p1 p2 : S47) : Nat → Int
  | 0 => 0
  | k + 1 => wrap64 (upS p0 p1 p2 k + upM p0 p1 p2 k)
def impl_isUp.f (k : Nat) (a0 : Int) (l1 : List Int) : Option Bool := (impl_points.f k a0).bind fun ps =>
  if 2 < (l1.length : Int) ∧ (0 ≤ rd l1 0 ∧ rd l1 0 < (ps.length : Int)) ∧ (0 ≤ rd l1 1 ∧ rd l1 1 < (ps.length : Int)) ∧ (0 ≤ rd l1 2 ∧ rd l1 2 < (ps.length : Int)) then
    some (upS (rd_T47 ps (rd l1 0)) (rd_T47 ps (rd l1 1)) (rd_T47 ps (rd l1 2)) 3 == wrap64 (a0 - 1)) else none
theorem impl_isUp.mono : ∀ a0 a1 k, LeO (impl_isUp.f k a0 a1) (impl_isUp.f (k + 1) a0 a1) := by
  intro a0 a1 k
  unfold impl_isUp.f
  exact LeO.bind (impl_points.mono _ _) (fun _ => LeO.refl _)

set_option maxHeartbeats 4000000 in
set_option maxRecDepth 100000 in
theorem impl_isUp.calls (k : Nat) (a0 : Int) (A1 : Option Addr) (c1 : Nat) (l1 : List Int) (r : Bool) (w : World) (hr1 : Kd.C (Kd.int .i64) w A1 l1.length l1) (hc1 : l1.length ≤ c1) (h : impl_isUp.f k a0 l1 = some r) :
    Calls Try.prog 66 #[.int .i64 a0, .slice A1 l1.length c1] w fun e w' => e = .returned (.bool r) ∧ Below w.heap.size w w' := by
  obtain ⟨ps, hps, h⟩ := Option.bind_eq_some_iff.mp h
  by_cases hc : 2 < (l1.length : Int) ∧ (0 ≤ rd l1 0 ∧ rd l1 0 < (ps.length : Int)) ∧ (0 ≤ rd l1 1 ∧ rd l1 1 < (ps.length : Int)) ∧ (0 ≤ rd l1 2 ∧ rd l1 2 < (ps.length : Int))
  case neg => rw [if_neg hc] at h; cases h
  rw [if_pos hc] at h
  obtain ⟨hl, ⟨x0, y0⟩, ⟨x1, y1⟩, x2, y2⟩ := hc
  have HP := Aside0.mk hps
  have HF := Aside0.mk (Option.some.inj h)
  have HL := Aside0.mk hr1
  have HC := Aside0.mk hc1
  have hm := Kd.C_max hr1
  clear hps h hr1 hc1
  have hu := Try.underlying47
  go_enter Try.func66, Try.ntmps66
  go_wp2_with fail
  refine (impl_points.calls k _ ps _ HP.out).mono ?_
  rintro e w1 ⟨va, rfl, RA, BA⟩
  have RA := Aside0.mk RA
  have BA := Aside0.mk BA
  have HL := Aside0.mk (Kd.C_below HL.out BA.out)
  obtain ⟨Aa, ca, rfl⟩ := Kd.R_slice RA.out
  have CA := Aside0.mk (Kd.R_reads' RA.out).2.2
  have hmp := Kd.C_max CA.out
  have n0 : 0 < l1.length := by omega
  have n1 : 1 < l1.length := by omega
  have n2 : 2 < l1.length := by omega
  have m1 : (1 : Int) < (l1.length : Int) := by omega
  have m2 : (2 : Int) < (l1.length : Int) := by omega
  obtain ⟨adl, e1, hl0⟩ := Kd.at_int HL.out 0 (by omega) (by omega)
  cases e1
  obtain ⟨adl', e1, hl1⟩ := Kd.at_int HL.out 1 (by omega) (by omega)
  cases e1
  obtain ⟨adl', e1, hl2⟩ := Kd.at_int HL.out 2 (by omega) (by omega)
  cases e1
  simp [Addr.add] at hl0 hl1 hl2
  generalize rd l1 0 = q0 at hl0 x0 y0 HF
  generalize rd l1 1 = q1 at hl1 x1 y1 HF
  generalize rd l1 2 = q2 at hl2 x2 y2 HF
  have HPS := Aside0.mk (fun (i : Int) (x : Int) => at_plc CA.out i x)
  go_wp2
  go_loopg [6, 7, 10] 3 (fun gg s6 _ s10 wr => ∃ kk q : Nat, kk ≤ 3 ∧ 3 - kk ≤ gg ∧ s6 = .int .i64 (upS (rd_T47 ps q0) (rd_T47 ps q1) (rd_T47 ps q2) kk) ∧ s10 = .int .i64 kk ∧ wr = w1.drewN q)
  case atStart => exact ⟨0, 0, by omega, by omega, rfl, rfl, rfl⟩
  case round =>
    obtain ⟨kk, q, hkk, hg, rfl, rfl, rfl⟩ := hrel
    by_cases hlt : kk < 3
    · have hltz : decide ((kk : Int) < 3) = true := by simp; omega
      have pk : 0 ≤ (kk : Int) := by omega
      have pk3 : (kk : Int) < 3 := by omega
      obtain ⟨adp, e1, hp0⟩ := HPS.out q0 kk x0 y0 pk pk3
      cases e1
      obtain ⟨adp', e1, hp1⟩ := HPS.out q1 kk x1 y1 pk pk3
      cases e1
      obtain ⟨adp', e1, hp2⟩ := HPS.out q2 kk x2 y2 pk pk3
      cases e1
      simp only [Int.toNat_natCast] at hp0 hp1 hp2
      generalize hs : upS (rd_T47 ps q0) (rd_T47 ps q1) (rd_T47 ps q2) kk = s
      generalize ht0 : plc (rd_T47 ps q0) kk = t0 at hp0
      generalize ht1 : plc (rd_T47 ps q1) kk = t1 at hp1
      generalize ht2 : plc (rd_T47 ps q2) kk = t2 at hp2
      have HS := Aside0.mk (And.intro hs (And.intro ht0 (And.intro ht1 ht2)))
      clear hs ht0 ht1 ht2
      go_wp2
      repeat (go_quiet (fail); try go_wp2)
      all_goals
        go_roundg (3 - (kk + 1))
        case measure => omega
        case rel =>
          refine ⟨kk + 1, _, by omega, by omega, ?_, by go_num, rfl⟩
          show _ = Value.int .i64 (wrap64 (upS (rd_T47 ps q0) (rd_T47 ps q1) (rd_T47 ps q2) kk + min (min (plc (rd_T47 ps q0) kk) (plc (rd_T47 ps q1) kk)) (plc (rd_T47 ps q2) kk)))
          rw [HS.out.1, HS.out.2.1, HS.out.2.2.1, HS.out.2.2.2]
          refine congrArg (fun z => Value.int .i64 (wrap64 (s + z))) ?_
          omega
    · have hltz : decide ((kk : Int) < 3) = false := by simp; omega
      obtain rfl : kk = 3 := by omega
      generalize upS (rd_T47 ps q0) (rd_T47 ps q1) (rd_T47 ps q2) 3 = s at HF
      go_wp2
      go_ret
      refine ⟨?_, by repeat (first | exact BA.out | apply pw_below_drewN)⟩
      rw [← HF.out]
      rfl
end Go.Proofs.Ytjcnmcbapjkmhaa.Given
