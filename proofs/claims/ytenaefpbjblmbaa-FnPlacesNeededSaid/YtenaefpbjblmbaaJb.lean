/- The reference's Draw functions of the hex chapter by hand (a reader made here and handed on by pointer); for all bytes. -/
import Derived.Test.YtenaefpbjblmbaaQx1
import Derived.Test.YtenaefpbjblmbaaQx2
import Derived.Lib.Walk
import Derived.Outline
namespace Go.Proofs.Ytenaefpbjblmbaa.Given
open Go.Proofs.Ytenaefpbjblmbaa.Q Go.RowKit Go.Proofs.YtenaefpbjblmbaaW.PrintWords Go.Proofs.YtenaefpbjblmbaaW.PrintLast Go.Proofs.YtenaefpbjblmbaaW.PrintMore
set_option linter.unusedVariables false
set_option linter.unusedSimpArgs false

theorem results_tmp4 {fn : Func} {t u v x : Tmp} (h : fn.results = #[.tmp t, .tmp u, .tmp v, .tmp x]) (tmps : Array Value) (P : Program) (w : World) :
    (results fn tmps).run P w = .ok (.tuple #[tmps.getD t undef, tmps.getD u undef, tmps.getD v undef, tmps.getD x undef]) w := by
  simp [results, h]

def spec_DrawHexNear.f (l0 : List Int) : Option (Int × Int × Int) := (spec_l1Cur_hexSides.f l0 0 0).bind fun t => (spec_l1Cur_pick.f l0 t.2.2.1 t.2.2.2 26).bind fun u => (spec_l1Cur_pick.f l0 u.2.1 u.2.2 9).bind fun v => some (t.1, t.2.1, wrap64 (u.1 - wrap64 (Int.tdiv v.1 8)))
set_option maxHeartbeats 4000000 in
theorem spec_DrawHexNear.calls (A0 : Option Addr) (c0 : Nat) (l0 : List Int) (r1 r2 r3 : Int) (w : World) (hr0 : Kd.C (Kd.int .u8) w A0 l0.length l0) (hc0 : l0.length ≤ c0) (h : spec_DrawHexNear.f l0 = some (r1, r2, r3)) :
    Calls Try.prog 43 #[.slice A0 l0.length c0] w fun e w' => e = .returned (.tuple #[.int .i64 r1, .int .i64 r2, .int .i64 r3]) ∧ Below w.heap.size w w' := by
  obtain ⟨⟨t1, t2, t3, t4⟩, ht, h⟩ := Option.bind_eq_some_iff.mp h
  obtain ⟨⟨u1, u2, u3⟩, hu1, h⟩ := Option.bind_eq_some_iff.mp h
  obtain ⟨⟨v1, v2, v3⟩, hv1, h⟩ := Option.bind_eq_some_iff.mp h
  simp only [Option.some.injEq, Prod.mk.injEq] at h
  obtain ⟨rfl, rfl, rfl⟩ := h
  have hu := Try.underlying49
  have HT := Aside0.mk ht
  have HU := Aside0.mk hu1
  have HV := Aside0.mk hv1
  have HI := Aside0.mk (IsS49.new w w A0 c0 l0 0 0 (Below.refl _ _) hr0)
  have HB := Aside0.mk (below_alloc (Below.refl w.heap.size w) (.cells #[.slice A0 l0.length c0, .int .i64 0, .int .u64 0] 49))
  clear ht hu1 hv1 hr0 hc0
  go_enter Try.func43, Try.ntmps43
  go_wp2_with fail
  refine (spec_l1Cur_hexSides.calls w.heap.size l0 0 0 t1 t2 t3 t4 w _ HI.out HB.out HT.out).mono ?_
  rintro e w2 ⟨rfl, I2, B2, K2⟩
  have I2 := Aside0.mk I2
  have B2 := Aside0.mk B2
  clear K2
  go_wp2_with fail
  refine (spec_l1Cur_pick.calls w.heap.size l0 t3 t4 26 u1 u2 u3 w _ (by repeat (first | exact I2.out | apply IsS49.drewN)) (by repeat (first | exact B2.out | apply pw_below_drewN)) HU.out).mono ?_
  rintro e w3 ⟨rfl, I3, B3, K3⟩
  have I3 := Aside0.mk I3
  have B3 := Aside0.mk B3
  clear K3
  go_wp2_with fail
  refine (spec_l1Cur_pick.calls w.heap.size l0 u2 u3 9 v1 v2 v3 w _ (by repeat (first | exact I3.out | apply IsS49.drewN)) (by repeat (first | exact B3.out | apply pw_below_drewN)) HV.out).mono ?_
  rintro e w4 ⟨rfl, I4, B4, K4⟩
  have B4 := Aside0.mk B4
  clear I4 K4
  go_wp2
  go_ret3
  exact ⟨rfl, by repeat (first | exact B4.out | apply pw_below_drewN)⟩

def drawWon (k : Nat) (l0 : List Int) (m : Int) : Option (Int × Int × List Int × Int) := (spec_l1Cur_hexSides.f l0 0 0).bind fun t => (spec_l1Cur_board.f k l0 t.2.2.1 t.2.2.2 t.1 t.2.1 m).bind fun u => (spec_l1Cur_among.f l0 u.2.1 u.2.2 [1, 2, 1, 2, 1, 2, 0, 3]).bind fun v => some (t.1, t.2.1, u.1, v.1)
theorem drawWon_mono (a0 : List Int) (m : Int) (k : Nat) : LeO (drawWon k a0 m) (drawWon (k + 1) a0 m) := by
  unfold drawWon
  exact LeO.bind (LeO.refl _) (fun _ => LeO.bind (spec_l1Cur_board.mono _ _ _ _ _ _ _) (fun _ => LeO.refl _))

def spec_DrawNeedOf.f (k : Nat) (l0 : List Int) : Option (Int × Int × List Int × Int) := drawWon k l0 6
theorem spec_DrawNeedOf.mono : ∀ a0 k, LeO (spec_DrawNeedOf.f k a0) (spec_DrawNeedOf.f (k + 1) a0) := fun a0 k => drawWon_mono a0 6 k
set_option maxHeartbeats 4000000 in
theorem spec_DrawNeedOf.calls (k : Nat) (A0 : Option Addr) (c0 : Nat) (l0 : List Int) (r1 r2 : Int) (r3 : List Int) (r4 : Int) (w : World) (hr0 : Kd.C (Kd.int .u8) w A0 l0.length l0) (hc0 : l0.length ≤ c0) (h : spec_DrawNeedOf.f k l0 = some (r1, r2, r3, r4)) :
    Calls Try.prog 42 #[.slice A0 l0.length c0] w fun e w' => ∃ v2_ : Value, e = .returned (.tuple #[.int .i64 r1, .int .i64 r2, v2_, .int .i64 r4]) ∧ Kd.R (Kd.int .i64) 3 w' w.heap.size (fun _ => True) v2_ r3 ∧ Below w.heap.size w w' := by
  obtain ⟨⟨t1, t2, t3, t4⟩, ht, h⟩ := Option.bind_eq_some_iff.mp h
  obtain ⟨⟨u1, u2, u3⟩, hu1, h⟩ := Option.bind_eq_some_iff.mp h
  obtain ⟨⟨v1, v2, v3⟩, hv1, h⟩ := Option.bind_eq_some_iff.mp h
  simp only [Option.some.injEq, Prod.mk.injEq] at h
  obtain ⟨rfl, rfl, rfl, rfl⟩ := h
  have hu := Try.underlying49
  have HT := Aside0.mk ht
  have HU := Aside0.mk hu1
  obtain ⟨y, hy⟩ : ∃ y_ : List Int, y_ = [1, 2, 1, 2, 1, 2, 0, 3] := ⟨_, rfl⟩
  have hv1 : spec_l1Cur_among.f l0 u2 u3 y = some (v1, v2, v3) := by rw [hy]; exact hv1
  have HV := Aside0.mk hv1
  have HY := Aside0.mk hy
  have HI := Aside0.mk (IsS49.new w w A0 c0 l0 0 0 (Below.refl _ _) hr0)
  have HB := Aside0.mk (below_alloc (Below.refl w.heap.size w) (.cells #[.slice A0 l0.length c0, .int .i64 0, .int .u64 0] 49))
  clear ht hu1 hv1 hr0 hc0 hy
  go_enter Try.func42, Try.ntmps42
  go_wp2_with fail
  refine (spec_l1Cur_hexSides.calls w.heap.size l0 0 0 t1 t2 t3 t4 w _ HI.out HB.out HT.out).mono ?_
  rintro e w2 ⟨rfl, I2, B2, K2⟩
  have I2 := Aside0.mk I2
  have B2 := Aside0.mk B2
  have G2 := Aside0.mk (show w.heap.size < w2.heap.size from Nat.lt_of_lt_of_le (by simp) K2.1)
  clear K2
  go_wp2_with fail
  refine (spec_l1Cur_board.calls k w.heap.size l0 t3 t4 t1 t2 6 u1 u2 u3 w _ (by repeat (first | exact I2.out | apply IsS49.drewN)) (by repeat (first | exact B2.out | apply pw_below_drewN)) HU.out).mono ?_
  rintro e w3 ⟨v3_, rfl, R3, I3, B3, K3⟩
  have I3 := Aside0.mk I3
  have B3 := Aside0.mk B3
  have R3 := Aside0.mk (Kd.R_mono (ok' := fun k => w.heap.size < k) (Kd.R_bound R3) (fun k hk => Nat.lt_of_lt_of_le (by have := G2.out; simpa using this) hk.2.1))
  clear K3
  obtain ⟨Ab, cb, rfl⟩ := Kd.R_slice R3.out
  go_wp2_with ((with_reducible refine gate_dst (N := 24) rfl ?_); refine Kd.R_lit (Kd.int .i64) _ 3 ?hg (N := 24) ?hd (xs := ([1, 2, 1, 2, 1, 2, 0, 3] : List Int)) (inner := [.int .i64 1, .int .i64 2, .int .i64 1, .int .i64 2, .int .i64 1, .int .i64 2, .int .i64 0, .int .i64 3]) (ok := fun _ => True) (okp := fun _ => True) ?hr ?hp (fun _ hk => hk) trivial (Below.refl _ _) (Nat.le_refl _) (by simp) ?_; (case hd => rfl); (case hg => rfl); (case hr => first | (go_simp; done) | (go_simp; rfl)); (case hp => exact (Reps.one (show Kd.M (Kd.int .i64) _ _ _ 1 [.int .i64 1] from rfl) (Reps.one (show Kd.M (Kd.int .i64) _ _ _ 2 [.int .i64 2] from rfl) (Reps.one (show Kd.M (Kd.int .i64) _ _ _ 1 [.int .i64 1] from rfl) (Reps.one (show Kd.M (Kd.int .i64) _ _ _ 2 [.int .i64 2] from rfl) (Reps.one (show Kd.M (Kd.int .i64) _ _ _ 1 [.int .i64 1] from rfl) (Reps.one (show Kd.M (Kd.int .i64) _ _ _ 2 [.int .i64 2] from rfl) (Reps.one (show Kd.M (Kd.int .i64) _ _ _ 0 [.int .i64 0] from rfl) (Reps.one (show Kd.M (Kd.int .i64) _ _ _ 3 [.int .i64 3] from rfl) (Reps.none _ _)))))))))); intro v4_ w4 ho4 hb4 hg_ hnew_; clear hg_ hnew_; rw [← HY.out] at ho4; have hbs := Kd.R_base ho4; obtain ⟨A4, c4, rfl⟩ := Kd.R_slice ho4; obtain ⟨_, k2, k3⟩ := Kd.R_reads' ho4; have b4 := below_step (show Below w3.heap.size w3 _ by repeat (first | exact Below.refl _ _ | apply pw_below_drewN)) hb4; have hlt3 := below_size b4; have hfar : ∀ ad, A4 = some ad → 0 < y.length → ad.block ≠ w.heap.size := (fun ad ha _ => by subst ha; obtain ⟨g2, rfl⟩ := Kd.R_head ho4; have q1 := hbs g2 rfl; have q2 := IsS49.lt I3.out; simp at q1 ⊢; omega); have K4 := Aside0.mk (And.intro k2 (And.intro k3 hfar)); have R4 := Aside0.mk (Kd.R_below R3.out b4); have I4 := Aside0.mk (I3.out.below b4); have B4 := Aside0.mk (below_step B3.out b4); clear R3 I3 B3 ho4 hbs k2 k3 hfar b4 hb4 hlt3)
  refine (spec_l1Cur_among.calls w.heap.size l0 u2 u3 _ _ y v1 v2 v3 w _ (by repeat (first | exact I4.out | apply IsS49.drewN)) (by repeat (first | exact B4.out | apply pw_below_drewN)) (by repeat (first | exact K4.out.2.1 | apply Kd.C_drewN)) K4.out.1 K4.out.2.2 HV.out).mono ?_
  rintro e w5 ⟨rfl, I5, B5, K5⟩
  have R5 := Aside0.mk (Kd.R_keep (show Kd.R _ _ _ _ _ _ _ by repeat (first | exact R4.out | apply Kd.R_drewN)) K5 (fun k hk => Nat.ne_of_gt hk))
  have B5 := Aside0.mk B5
  clear I5 K5
  go_wp2
  (try simp only [Exit.inBlock, Exit.then])
  refine bodyPost_ret (results_tmp4 rfl _ _ _) rfl ?_
  exact ⟨_, rfl, Kd.R_mono (Kd.R_lower R5.out (by have := G2.out; first | omega | (simp; omega))) (fun _ _ => trivial), by repeat (first | exact B5.out | apply pw_below_drewN)⟩

def spec_DrawHasWon.f (k : Nat) (l0 : List Int) : Option (Int × Int × List Int × Int) := drawWon k l0 2
theorem spec_DrawHasWon.mono : ∀ a0 k, LeO (spec_DrawHasWon.f k a0) (spec_DrawHasWon.f (k + 1) a0) := fun a0 k => drawWon_mono a0 2 k
set_option maxHeartbeats 4000000 in
theorem spec_DrawHasWon.calls (k : Nat) (A0 : Option Addr) (c0 : Nat) (l0 : List Int) (r1 r2 : Int) (r3 : List Int) (r4 : Int) (w : World) (hr0 : Kd.C (Kd.int .u8) w A0 l0.length l0) (hc0 : l0.length ≤ c0) (h : spec_DrawHasWon.f k l0 = some (r1, r2, r3, r4)) :
    Calls Try.prog 46 #[.slice A0 l0.length c0] w fun e w' => ∃ v2_ : Value, e = .returned (.tuple #[.int .i64 r1, .int .i64 r2, v2_, .int .i64 r4]) ∧ Kd.R (Kd.int .i64) 3 w' w.heap.size (fun _ => True) v2_ r3 ∧ Below w.heap.size w w' := by
  obtain ⟨⟨t1, t2, t3, t4⟩, ht, h⟩ := Option.bind_eq_some_iff.mp h
  obtain ⟨⟨u1, u2, u3⟩, hu1, h⟩ := Option.bind_eq_some_iff.mp h
  obtain ⟨⟨v1, v2, v3⟩, hv1, h⟩ := Option.bind_eq_some_iff.mp h
  simp only [Option.some.injEq, Prod.mk.injEq] at h
  obtain ⟨rfl, rfl, rfl, rfl⟩ := h
  have hu := Try.underlying49
  have HT := Aside0.mk ht
  have HU := Aside0.mk hu1
  obtain ⟨y, hy⟩ : ∃ y_ : List Int, y_ = [1, 2, 1, 2, 1, 2, 0, 3] := ⟨_, rfl⟩
  have hv1 : spec_l1Cur_among.f l0 u2 u3 y = some (v1, v2, v3) := by rw [hy]; exact hv1
  have HV := Aside0.mk hv1
  have HY := Aside0.mk hy
  have HI := Aside0.mk (IsS49.new w w A0 c0 l0 0 0 (Below.refl _ _) hr0)
  have HB := Aside0.mk (below_alloc (Below.refl w.heap.size w) (.cells #[.slice A0 l0.length c0, .int .i64 0, .int .u64 0] 49))
  clear ht hu1 hv1 hr0 hc0 hy
  go_enter Try.func46, Try.ntmps46
  go_wp2_with fail
  refine (spec_l1Cur_hexSides.calls w.heap.size l0 0 0 t1 t2 t3 t4 w _ HI.out HB.out HT.out).mono ?_
  rintro e w2 ⟨rfl, I2, B2, K2⟩
  have I2 := Aside0.mk I2
  have B2 := Aside0.mk B2
  have G2 := Aside0.mk (show w.heap.size < w2.heap.size from Nat.lt_of_lt_of_le (by simp) K2.1)
  clear K2
  go_wp2_with fail
  refine (spec_l1Cur_board.calls k w.heap.size l0 t3 t4 t1 t2 2 u1 u2 u3 w _ (by repeat (first | exact I2.out | apply IsS49.drewN)) (by repeat (first | exact B2.out | apply pw_below_drewN)) HU.out).mono ?_
  rintro e w3 ⟨v3_, rfl, R3, I3, B3, K3⟩
  have I3 := Aside0.mk I3
  have B3 := Aside0.mk B3
  have R3 := Aside0.mk (Kd.R_mono (ok' := fun k => w.heap.size < k) (Kd.R_bound R3) (fun k hk => Nat.lt_of_lt_of_le (by have := G2.out; simpa using this) hk.2.1))
  clear K3
  obtain ⟨Ab, cb, rfl⟩ := Kd.R_slice R3.out
  go_wp2_with ((with_reducible refine gate_dst (N := 24) rfl ?_); refine Kd.R_lit (Kd.int .i64) _ 3 ?hg (N := 24) ?hd (xs := ([1, 2, 1, 2, 1, 2, 0, 3] : List Int)) (inner := [.int .i64 1, .int .i64 2, .int .i64 1, .int .i64 2, .int .i64 1, .int .i64 2, .int .i64 0, .int .i64 3]) (ok := fun _ => True) (okp := fun _ => True) ?hr ?hp (fun _ hk => hk) trivial (Below.refl _ _) (Nat.le_refl _) (by simp) ?_; (case hd => rfl); (case hg => rfl); (case hr => first | (go_simp; done) | (go_simp; rfl)); (case hp => exact (Reps.one (show Kd.M (Kd.int .i64) _ _ _ 1 [.int .i64 1] from rfl) (Reps.one (show Kd.M (Kd.int .i64) _ _ _ 2 [.int .i64 2] from rfl) (Reps.one (show Kd.M (Kd.int .i64) _ _ _ 1 [.int .i64 1] from rfl) (Reps.one (show Kd.M (Kd.int .i64) _ _ _ 2 [.int .i64 2] from rfl) (Reps.one (show Kd.M (Kd.int .i64) _ _ _ 1 [.int .i64 1] from rfl) (Reps.one (show Kd.M (Kd.int .i64) _ _ _ 2 [.int .i64 2] from rfl) (Reps.one (show Kd.M (Kd.int .i64) _ _ _ 0 [.int .i64 0] from rfl) (Reps.one (show Kd.M (Kd.int .i64) _ _ _ 3 [.int .i64 3] from rfl) (Reps.none _ _)))))))))); intro v4_ w4 ho4 hb4 hg_ hnew_; clear hg_ hnew_; rw [← HY.out] at ho4; have hbs := Kd.R_base ho4; obtain ⟨A4, c4, rfl⟩ := Kd.R_slice ho4; obtain ⟨_, k2, k3⟩ := Kd.R_reads' ho4; have b4 := below_step (show Below w3.heap.size w3 _ by repeat (first | exact Below.refl _ _ | apply pw_below_drewN)) hb4; have hlt3 := below_size b4; have hfar : ∀ ad, A4 = some ad → 0 < y.length → ad.block ≠ w.heap.size := (fun ad ha _ => by subst ha; obtain ⟨g2, rfl⟩ := Kd.R_head ho4; have q1 := hbs g2 rfl; have q2 := IsS49.lt I3.out; simp at q1 ⊢; omega); have K4 := Aside0.mk (And.intro k2 (And.intro k3 hfar)); have R4 := Aside0.mk (Kd.R_below R3.out b4); have I4 := Aside0.mk (I3.out.below b4); have B4 := Aside0.mk (below_step B3.out b4); clear R3 I3 B3 ho4 hbs k2 k3 hfar b4 hb4 hlt3)
  refine (spec_l1Cur_among.calls w.heap.size l0 u2 u3 _ _ y v1 v2 v3 w _ (by repeat (first | exact I4.out | apply IsS49.drewN)) (by repeat (first | exact B4.out | apply pw_below_drewN)) (by repeat (first | exact K4.out.2.1 | apply Kd.C_drewN)) K4.out.1 K4.out.2.2 HV.out).mono ?_
  rintro e w5 ⟨rfl, I5, B5, K5⟩
  have R5 := Aside0.mk (Kd.R_keep (show Kd.R _ _ _ _ _ _ _ by repeat (first | exact R4.out | apply Kd.R_drewN)) K5 (fun k hk => Nat.ne_of_gt hk))
  have B5 := Aside0.mk B5
  clear I5 K5
  go_wp2
  (try simp only [Exit.inBlock, Exit.then])
  refine bodyPost_ret (results_tmp4 rfl _ _ _) rfl ?_
  exact ⟨_, rfl, Kd.R_mono (Kd.R_lower R5.out (by have := G2.out; first | omega | (simp; omega))) (fun _ _ => trivial), by repeat (first | exact B5.out | apply pw_below_drewN)⟩
end Go.Proofs.Ytenaefpbjblmbaa.Given
