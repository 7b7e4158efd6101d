/- The reference's Draw functions of boards that are played by hand (a reader made here and handed on by pointer; a row that is written); for all bytes. -/
import Derived.Test.YtjajahofbhcioaaQx1
import Derived.Test.YtjajahofbhcioaaQx2
import Derived.Lib.Walk
import Derived.Outline
namespace Go.Proofs.Ytjajahofbhcioaa.Given
open Go.Proofs.Ytjajahofbhcioaa.Q Go.RowKit Go.Proofs.YtjajahofbhcioaaW.PrintWords Go.Proofs.YtjajahofbhcioaaW.PrintLast Go.Proofs.YtjajahofbhcioaaW.PrintMore
set_option linter.unusedVariables false
set_option linter.unusedSimpArgs false

theorem results_tmp4 {fn : Func} {t u v x : Tmp} (h : fn.results = #[.tmp t, .tmp u, .tmp v, .tmp x]) (tmps : Array Value) (P : Program) (w : World) :
    (results fn tmps).run P w = .ok (.tuple #[tmps.getD t undef, tmps.getD u undef, tmps.getD v undef, tmps.getD x undef]) w := by
  simp [results, h]

def spec_DrawCountWins.f (l0 : List Int) : Option (Int × Int × Int) := (spec_l1Cur_among.f l0 0 0 [1, 2, 3, 3, 4, 0]).bind fun t => (spec_l1Cur_among.f l0 t.2.1 t.2.2 [1, 2, 3, 2, 9, 10]).bind fun u => (spec_l1Cur_among.f l0 u.2.1 u.2.2 [1, 2, 1, 2, 0, 3]).bind fun v => some (t.1, u.1, v.1)
set_option maxHeartbeats 4000000 in
theorem spec_DrawCountWins.calls (A0 : Option Addr) (c0 : Nat) (l0 : List Int) (r1 r2 r3 : Int) (w : World) (hr0 : Kd.C (Kd.int .u8) w A0 l0.length l0) (hc0 : l0.length ≤ c0) (h : spec_DrawCountWins.f l0 = some (r1, r2, r3)) :
    Calls Try.prog 18 #[.slice A0 l0.length c0] w fun e w' => e = .returned (.tuple #[.int .i64 r1, .int .i64 r2, .int .i64 r3]) ∧ Below w.heap.size w w' := by
  obtain ⟨⟨t1, t2, t3⟩, ht, h⟩ := Option.bind_eq_some_iff.mp h
  obtain ⟨⟨u1, u2, u3⟩, hu1, h⟩ := Option.bind_eq_some_iff.mp h
  obtain ⟨⟨v1, v2, v3⟩, hv1, h⟩ := Option.bind_eq_some_iff.mp h
  simp only [Option.some.injEq, Prod.mk.injEq] at h
  obtain ⟨rfl, rfl, rfl⟩ := h
  have hu := Try.underlying46
  obtain ⟨y, hy⟩ : ∃ y_ : List Int, y_ = [1, 2, 3, 3, 4, 0] := ⟨_, rfl⟩
  obtain ⟨z, hz⟩ : ∃ y_ : List Int, y_ = [1, 2, 3, 2, 9, 10] := ⟨_, rfl⟩
  obtain ⟨x, hx⟩ : ∃ y_ : List Int, y_ = [1, 2, 1, 2, 0, 3] := ⟨_, rfl⟩
  have HT := Aside0.mk (show spec_l1Cur_among.f l0 0 0 y = some (t1, t2, t3) by rw [hy]; exact ht)
  have HU := Aside0.mk (show spec_l1Cur_among.f l0 t2 t3 z = some (u1, u2, u3) by rw [hz]; exact hu1)
  have HV := Aside0.mk (show spec_l1Cur_among.f l0 u2 u3 x = some (v1, v2, v3) by rw [hx]; exact hv1)
  have HY := Aside0.mk hy
  have HZ := Aside0.mk hz
  have HX := Aside0.mk hx
  obtain ⟨w1, hw1⟩ : ∃ w1, w1 = (w.alloc (.cells #[.slice A0 l0.length c0, .int .i64 0, .int .u64 0] 46)) := ⟨_, rfl⟩
  have I1 := Aside0.mk (show IsS46 w w1 w.heap.size l0 0 0 from hw1 ▸ IsS46.new w w A0 c0 l0 0 0 (Below.refl _ _) hr0)
  have B1 := Aside0.mk (show Below w.heap.size w w1 from hw1 ▸ below_alloc (Below.refl w.heap.size w) (.cells #[.slice A0 l0.length c0, .int .i64 0, .int .u64 0] 46))
  have HW1 := Aside0.mk hw1
  clear ht hu1 hv1 hr0 hc0 hy hz hx hw1
  go_enter Try.func18, Try.ntmps18
  go_upto_region 2 with fail
  rw [← HW1.out]
  go_wp2_with ((with_reducible refine gate_dst (N := 10) rfl ?_); refine Kd.R_lit (Kd.int .i64) _ 3 ?hg (N := 10) ?hd (xs := ([1, 2, 3, 3, 4, 0] : List Int)) (inner := [.int .i64 1, .int .i64 2, .int .i64 3, .int .i64 3, .int .i64 4, .int .i64 0]) (ok := fun _ => True) (okp := fun _ => True) ?hr ?hp (fun _ hk => hk) trivial (Below.refl _ _) (Nat.le_refl _) (by simp) ?_; (case hd => rfl); (case hg => rfl); (case hr => first | (go_simp; done) | (go_simp; rfl)); (case hp => exact (Reps.one (show Kd.M (Kd.int .i64) _ _ _ 1 [.int .i64 1] from rfl) (Reps.one (show Kd.M (Kd.int .i64) _ _ _ 2 [.int .i64 2] from rfl) (Reps.one (show Kd.M (Kd.int .i64) _ _ _ 3 [.int .i64 3] from rfl) (Reps.one (show Kd.M (Kd.int .i64) _ _ _ 3 [.int .i64 3] from rfl) (Reps.one (show Kd.M (Kd.int .i64) _ _ _ 4 [.int .i64 4] from rfl) (Reps.one (show Kd.M (Kd.int .i64) _ _ _ 0 [.int .i64 0] from rfl) (Reps.none _ _)))))))); intro va_ w2 ho hb hg_ hnew_; clear hg_ hnew_; rw [← HY.out] at ho; have hbs := Kd.R_base ho; obtain ⟨Aa, ca, rfl⟩ := Kd.R_slice ho; obtain ⟨_, k2, k3⟩ := Kd.R_reads' ho; have b4 := below_step (show Below w1.heap.size w1 _ by repeat (first | exact Below.refl _ _ | apply pw_below_drewN)) hb; have hlt3 := below_size b4; have hfar : ∀ ad, Aa = some ad → 0 < y.length → ad.block ≠ w.heap.size := (fun ad ha _ => by subst ha; obtain ⟨g2, rfl⟩ := Kd.R_head ho; have q1 := hbs g2 rfl; have q2 := IsS46.lt I1.out; simp at q1 ⊢; omega); have I2 := Aside0.mk (I1.out.below b4); have B2 := Aside0.mk (below_step B1.out b4); have Ka := Aside0.mk (And.intro k2 (And.intro k3 hfar)); clear ho hbs k2 k3 hfar b4 hb hlt3)
  refine (spec_l1Cur_among.calls w.heap.size l0 0 0 _ _ y t1 t2 t3 w _ (by repeat (first | exact I2.out | apply IsS46.drewN)) (by repeat (first | exact B2.out | apply pw_below_drewN)) (by repeat (first | exact Ka.out.2.1 | apply Kd.C_drewN)) Ka.out.1 Ka.out.2.2 HT.out).mono ?_
  rintro e w3 ⟨rfl, I3, B3, KP⟩
  have I3 := Aside0.mk I3
  have B3 := Aside0.mk B3
  clear KP Ka
  go_wp2_with ((with_reducible refine gate_dst (N := 13) rfl ?_); refine Kd.R_lit (Kd.int .i64) _ 3 ?hg (N := 13) ?hd (xs := ([1, 2, 3, 2, 9, 10] : List Int)) (inner := [.int .i64 1, .int .i64 2, .int .i64 3, .int .i64 2, .int .i64 9, .int .i64 10]) (ok := fun _ => True) (okp := fun _ => True) ?hr ?hp (fun _ hk => hk) trivial (Below.refl _ _) (Nat.le_refl _) (by simp) ?_; (case hd => rfl); (case hg => rfl); (case hr => first | (go_simp; done) | (go_simp; rfl)); (case hp => exact (Reps.one (show Kd.M (Kd.int .i64) _ _ _ 1 [.int .i64 1] from rfl) (Reps.one (show Kd.M (Kd.int .i64) _ _ _ 2 [.int .i64 2] from rfl) (Reps.one (show Kd.M (Kd.int .i64) _ _ _ 3 [.int .i64 3] from rfl) (Reps.one (show Kd.M (Kd.int .i64) _ _ _ 2 [.int .i64 2] from rfl) (Reps.one (show Kd.M (Kd.int .i64) _ _ _ 9 [.int .i64 9] from rfl) (Reps.one (show Kd.M (Kd.int .i64) _ _ _ 10 [.int .i64 10] from rfl) (Reps.none _ _)))))))); intro vb_ w4 ho hb hg_ hnew_; clear hg_ hnew_; rw [← HZ.out] at ho; have hbs := Kd.R_base ho; obtain ⟨Ab, cb, rfl⟩ := Kd.R_slice ho; obtain ⟨_, k2, k3⟩ := Kd.R_reads' ho; have b4 := below_step (show Below w3.heap.size w3 _ by repeat (first | exact Below.refl _ _ | apply pw_below_drewN)) hb; have hlt3 := below_size b4; have hfar : ∀ ad, Ab = some ad → 0 < z.length → ad.block ≠ w.heap.size := (fun ad ha _ => by subst ha; obtain ⟨g2, rfl⟩ := Kd.R_head ho; have q1 := hbs g2 rfl; have q2 := IsS46.lt I3.out; simp at q1 ⊢; omega); have I4 := Aside0.mk (I3.out.below b4); have B4 := Aside0.mk (below_step B3.out b4); have Kb := Aside0.mk (And.intro k2 (And.intro k3 hfar)); clear ho hbs k2 k3 hfar b4 hb hlt3)
  refine (spec_l1Cur_among.calls w.heap.size l0 t2 t3 _ _ z u1 u2 u3 w _ (by repeat (first | exact I4.out | apply IsS46.drewN)) (by repeat (first | exact B4.out | apply pw_below_drewN)) (by repeat (first | exact Kb.out.2.1 | apply Kd.C_drewN)) Kb.out.1 Kb.out.2.2 HU.out).mono ?_
  rintro e w5 ⟨rfl, I5, B5, KP⟩
  have I5 := Aside0.mk I5
  have B5 := Aside0.mk B5
  clear KP Kb
  go_wp2_with ((with_reducible refine gate_dst (N := 16) rfl ?_); refine Kd.R_lit (Kd.int .i64) _ 3 ?hg (N := 16) ?hd (xs := ([1, 2, 1, 2, 0, 3] : List Int)) (inner := [.int .i64 1, .int .i64 2, .int .i64 1, .int .i64 2, .int .i64 0, .int .i64 3]) (ok := fun _ => True) (okp := fun _ => True) ?hr ?hp (fun _ hk => hk) trivial (Below.refl _ _) (Nat.le_refl _) (by simp) ?_; (case hd => rfl); (case hg => rfl); (case hr => first | (go_simp; done) | (go_simp; rfl)); (case hp => exact (Reps.one (show Kd.M (Kd.int .i64) _ _ _ 1 [.int .i64 1] from rfl) (Reps.one (show Kd.M (Kd.int .i64) _ _ _ 2 [.int .i64 2] from rfl) (Reps.one (show Kd.M (Kd.int .i64) _ _ _ 1 [.int .i64 1] from rfl) (Reps.one (show Kd.M (Kd.int .i64) _ _ _ 2 [.int .i64 2] from rfl) (Reps.one (show Kd.M (Kd.int .i64) _ _ _ 0 [.int .i64 0] from rfl) (Reps.one (show Kd.M (Kd.int .i64) _ _ _ 3 [.int .i64 3] from rfl) (Reps.none _ _)))))))); intro vc_ w6 ho hb hg_ hnew_; clear hg_ hnew_; rw [← HX.out] at ho; have hbs := Kd.R_base ho; obtain ⟨Ac, cc, rfl⟩ := Kd.R_slice ho; obtain ⟨_, k2, k3⟩ := Kd.R_reads' ho; have b4 := below_step (show Below w5.heap.size w5 _ by repeat (first | exact Below.refl _ _ | apply pw_below_drewN)) hb; have hlt3 := below_size b4; have hfar : ∀ ad, Ac = some ad → 0 < x.length → ad.block ≠ w.heap.size := (fun ad ha _ => by subst ha; obtain ⟨g2, rfl⟩ := Kd.R_head ho; have q1 := hbs g2 rfl; have q2 := IsS46.lt I5.out; simp at q1 ⊢; omega); have I6 := Aside0.mk (I5.out.below b4); have B6 := Aside0.mk (below_step B5.out b4); have Kc := Aside0.mk (And.intro k2 (And.intro k3 hfar)); clear ho hbs k2 k3 hfar b4 hb hlt3)
  refine (spec_l1Cur_among.calls w.heap.size l0 u2 u3 _ _ x v1 v2 v3 w _ (by repeat (first | exact I6.out | apply IsS46.drewN)) (by repeat (first | exact B6.out | apply pw_below_drewN)) (by repeat (first | exact Kc.out.2.1 | apply Kd.C_drewN)) Kc.out.1 Kc.out.2.2 HV.out).mono ?_
  rintro e w7 ⟨rfl, I7, B7, KP⟩
  have I7 := Aside0.mk I7
  have B7 := Aside0.mk B7
  clear KP Kc
  go_wp2
  go_ret3
  exact ⟨rfl, by repeat (first | exact B7.out | apply pw_below_drewN)⟩

/-- Not too many places that are nobody's. -/
def drawFix.l0 : Nat → List Int → List Int → Int → Int → Int → Option (List Int × Int × Int)
  | 0, _, _, _, _, _ => none
  | k + 1, l0, x, i, s1, s2 => if i < (x.length : Int) then (if 0 ≤ i then (spec_hxFree.f k x).bind fun t => if t > 6 then (if rd x i = 0 then (spec_l1Cur_pick.f l0 s1 s2 2).bind fun u => drawFix.l0 k l0 (x.set i.toNat (wrap64 (1 + u.1))) (wrap64 (i + 1)) u.2.1 u.2.2 else drawFix.l0 k l0 x (wrap64 (i + 1)) s1 s2) else drawFix.l0 k l0 x (wrap64 (i + 1)) s1 s2 else none) else some (x, s1, s2)
theorem drawFix.mono : ∀ (k : Nat) (l0 x : List Int) (i s1 s2 : Int), LeO (drawFix.l0 k l0 x i s1 s2) (drawFix.l0 (k + 1) l0 x i s1 s2)
  | 0, _, _, _, _, _ => fun r h => by simp [drawFix.l0] at h
  | k + 1, l0, x, i, s1, s2 => by
    rw [drawFix.l0, drawFix.l0]
    split
    · split
      · refine LeO.bind (spec_hxFree.mono _ k) (fun t => ?_)
        split
        · split
          · exact LeO.bind (LeO.refl _) (fun u => drawFix.mono k _ _ _ _ _)
          · exact drawFix.mono k _ _ _ _ _
        · exact drawFix.mono k _ _ _ _ _
      · exact LeO.refl _
    · exact LeO.refl _
def spec_DrawWinsMoving.f (k : Nat) (l0 : List Int) : Option (Int × Int × List Int × Int) := (spec_l1Cur_pick.f l0 0 0 3).bind fun t => (spec_l1Cur_pick.f l0 t.2.1 t.2.2 3).bind fun u => (spec_l1Cur_board.f k l0 u.2.1 u.2.2 (wrap64 (1 + t.1)) (wrap64 (1 + u.1)) 6).bind fun b => (drawFix.l0 k l0 b.1 0 b.2.1 b.2.2).bind fun x => (spec_l1Cur_one.f l0 x.2.1 x.2.2 20).bind fun o => (spec_l1Cur_among.f l0 o.2.1 o.2.2 [1, 2, 1, 2, 1, 2, 1, 2, 0, 3]).bind fun v => if o.1 = true then some (2, 5, List.replicate 10 0, v.1) else some (wrap64 (1 + t.1), wrap64 (1 + u.1), x.1, v.1)
theorem spec_DrawWinsMoving.mono : ∀ a0 k, LeO (spec_DrawWinsMoving.f k a0) (spec_DrawWinsMoving.f (k + 1) a0) := by
  intro a0 k
  unfold spec_DrawWinsMoving.f
  exact LeO.bind (LeO.refl _) (fun _ => LeO.bind (LeO.refl _) (fun _ => LeO.bind (spec_l1Cur_board.mono _ _ _ _ _ _ k) (fun _ => LeO.bind (drawFix.mono k _ _ _ _ _) (fun _ => LeO.refl _))))
set_option maxHeartbeats 8000000 in
set_option maxRecDepth 100000 in
theorem spec_DrawWinsMoving.calls (k : Nat) (A0 : Option Addr) (c0 : Nat) (l0 : List Int) (r1 r2 : Int) (r3 : List Int) (r4 : Int) (w : World) (hr0 : Kd.C (Kd.int .u8) w A0 l0.length l0) (hc0 : l0.length ≤ c0) (h : spec_DrawWinsMoving.f k l0 = some (r1, r2, r3, r4)) :
    Calls Try.prog 12 #[.slice A0 l0.length c0] w fun e w' => ∃ v2_ : Value, e = .returned (.tuple #[.int .i64 r1, .int .i64 r2, v2_, .int .i64 r4]) ∧ Kd.R (Kd.int .i64) 3 w' w.heap.size (fun _ => True) v2_ r3 ∧ Below w.heap.size w w' := by
  obtain ⟨⟨t1, t2, t3⟩, ht, h⟩ := Option.bind_eq_some_iff.mp h
  obtain ⟨⟨u1, u2, u3⟩, hu1, h⟩ := Option.bind_eq_some_iff.mp h
  obtain ⟨⟨b1, b2, b3⟩, hb1, h⟩ := Option.bind_eq_some_iff.mp h
  obtain ⟨⟨x1, x2, x3⟩, hx1, h⟩ := Option.bind_eq_some_iff.mp h
  obtain ⟨⟨o1, o2, o3⟩, ho1, h⟩ := Option.bind_eq_some_iff.mp h
  obtain ⟨⟨v1, v2, v3⟩, hv1, h⟩ := Option.bind_eq_some_iff.mp h
  have hu := Try.underlying46
  obtain ⟨y, hy⟩ : ∃ y_ : List Int, y_ = [1, 2, 1, 2, 1, 2, 1, 2, 0, 3] := ⟨_, rfl⟩
  have HT := Aside0.mk ht
  have HU := Aside0.mk hu1
  have HB1 := Aside0.mk hb1
  have HX1 := Aside0.mk hx1
  have HO1 := Aside0.mk ho1
  have HV := Aside0.mk (show spec_l1Cur_among.f l0 o2 o3 y = some (v1, v2, v3) by rw [hy]; exact hv1)
  have HY := Aside0.mk hy
  have HH := Aside0.mk (show (if o1 = true then some ((2 : Int), (5 : Int), List.replicate 10 (0 : Int), v1) else some (wrap64 (1 + t1), wrap64 (1 + u1), x1, v1)) = some (r1, r2, r3, r4) from h)
  obtain ⟨w1, hw1⟩ : ∃ w1, w1 = (w.alloc (.cells #[.slice A0 l0.length c0, .int .i64 0, .int .u64 0] 46)) := ⟨_, rfl⟩
  have I1 := Aside0.mk (show IsS46 w w1 w.heap.size l0 0 0 from hw1 ▸ IsS46.new w w A0 c0 l0 0 0 (Below.refl _ _) hr0)
  have B1 := Aside0.mk (show Below w.heap.size w w1 from hw1 ▸ below_alloc (Below.refl w.heap.size w) (.cells #[.slice A0 l0.length c0, .int .i64 0, .int .u64 0] 46))
  have HW1 := Aside0.mk hw1
  have HS1 := Aside0.mk (show w.heap.size < w1.heap.size by rw [hw1]; simp)
  clear ht hu1 hb1 hx1 ho1 hv1 hr0 hc0 hy hw1 h
  go_enter Try.func12, Try.ntmps12
  go_wp2_with fail
  rw [← HW1.out]
  refine (spec_l1Cur_pick.calls w.heap.size l0 0 0 3 t1 t2 t3 w _ I1.out B1.out HT.out).mono ?_
  rintro e w2 ⟨rfl, I2, B2, K2⟩
  have I2 := Aside0.mk I2
  have B2 := Aside0.mk B2
  have HS2 := Aside0.mk (Nat.lt_of_lt_of_le HS1.out K2.1)
  clear K2
  go_wp2_with fail
  refine (spec_l1Cur_pick.calls w.heap.size l0 t2 t3 3 u1 u2 u3 w _ (by repeat (first | exact I2.out | apply IsS46.drewN)) (by repeat (first | exact B2.out | apply pw_below_drewN)) HU.out).mono ?_
  rintro e w3 ⟨rfl, I3, B3, K3⟩
  have I3 := Aside0.mk I3
  have B3 := Aside0.mk B3
  have HS3 := Aside0.mk (show w.heap.size < w3.heap.size from Nat.lt_of_lt_of_le HS2.out K3.1)
  clear K3
  go_wp2_with fail
  refine (spec_l1Cur_board.calls k w.heap.size l0 u2 u3 _ _ 6 b1 b2 b3 w _ (by repeat (first | exact I3.out | apply IsS46.drewN)) (by repeat (first | exact B3.out | apply pw_below_drewN)) HB1.out).mono ?_
  rintro e w4 ⟨vb, rfl, R4, I4, B4, K4⟩
  have I4 := Aside0.mk I4
  have B4 := Aside0.mk B4
  have R4 := Aside0.mk (Kd.R_lower (Kd.R_mono (ok' := fun k => w.heap.size < k) (Kd.R_bound R4) (fun k hk => Nat.lt_of_lt_of_le (by have := HS3.out; simpa using this) hk.2.1)) (show w.heap.size ≤ _ from Nat.le_of_lt (by have := HS3.out; simpa using this)))
  clear K4
  obtain ⟨Ab, cb, rfl⟩ := Kd.R_slice R4.out
  go_wp2
  go_loopg [26] k (fun kq s26 wr => ∃ (X : List Int) (i s1 s2 : Int), s26 = .int .i64 i ∧ Aside0 (drawFix.l0 kq l0 X i s1 s2 = some (x1, x2, x3)) ∧ Aside0 (kq ≤ k) ∧ Aside0 (X.length = b1.length) ∧ Aside0 (Kd.R (Kd.int .i64) 3 wr w.heap.size (fun k => w.heap.size < k) (.slice Ab b1.length cb) X) ∧ Aside0 (IsS46 w wr w.heap.size l0 s1 s2) ∧ Aside0 (Below w.heap.size w wr))
  case atStart => exact ⟨b1, 0, b2, b3, rfl, HX1, ⟨Nat.le_refl _⟩, ⟨rfl⟩, ⟨by repeat (first | exact R4.out | apply Kd.R_drewN)⟩, ⟨by repeat (first | exact I4.out | apply IsS46.drewN)⟩, ⟨by repeat (first | exact B4.out | apply pw_below_drewN)⟩⟩
  case round =>
    clear HX1 R4 I4 B4 I3 B3 I2 B2 HT HU HB1
    obtain ⟨X, i, s1, s2, rfl, HA, HK, HL, HR, HI, HB⟩ := hrel
    cases gk with
    | zero => exact absurd HA.out (by simp [drawFix.l0])
    | succ k1 =>
      have H := HA.out
      clear HA
      rw [drawFix.l0, HL.out] at H
      obtain ⟨hn1, hn2, hn3⟩ := Kd.R_reads' HR.out
      have CL := Aside0.mk (show X.length ≤ cb by rw [HL.out]; exact hn2)
      have hn4 : Kd.C (Kd.int .i64) wr Ab b1.length X := by have h := hn3; first | exact h | (rw [HL.out] at h; exact h)
      have CX := Aside0.mk hn4
      clear hn1 hn2 hn3 hn4
      by_cases c1 : i < (b1.length : Int)
      · rw [if_pos c1] at H
        by_cases c20 : 0 ≤ i
        · rw [if_pos c20] at H
          obtain ⟨t, ht, H⟩ := Option.bind_eq_some_iff.mp H
          have hf := fun W hC => spec_hxFree.calls k1 Ab cb X t W hC CL.out ht
          rw [HL.out] at hf
          have HF := Aside0.mk hf
          clear ht hf
          by_cases c3 : t > 6
          · rw [if_pos c3] at H
            have c3b : decide (6 < t) = true := decide_eq_true c3
            obtain ⟨gA, cA, eA, gbA, glA, clA, HGA⟩ := Kd.R_form HR.out (by have := HL.out; omega)
            injection eA with ea en ec
            subst ea
            subst ec
            have GBA := Aside0.mk (show w.heap.size < gA from HR.out.1 gA (by simp [Value.ownBlock]))
            have hx : wr.cell? ⟨gA, i.toNat, none⟩ = some (.int .i64 (rd X i)) := (Kd.R_celln 0 HR.out i c20 c1).1
            clear en glA clA HGA gbA
            by_cases c4 : rd X i = 0
            · as_aux_lemma =>
              rw [if_pos c4] at H
              have c4b : (rd X i == 0) = true := beq_iff_eq.2 c4
              obtain ⟨⟨p1, p2, p3⟩, hp, H⟩ := Option.bind_eq_some_iff.mp H
              have HP1 := Aside0.mk hp
              have H' := Aside0.mk H
              clear hp H c4
              go_wp2_with fail
              refine (HF.out _ (by repeat (first | exact CX.out | apply Kd.C_drewN))).mono ?_
              rintro e w5 ⟨rfl, ⟨q5, rfl⟩⟩
              go_wp2_with fail
              refine (spec_l1Cur_pick.calls w.heap.size l0 s1 s2 2 p1 p2 p3 w _ (by repeat (first | exact HI.out | apply IsS46.drewN)) (by repeat (first | exact HB.out | apply pw_below_drewN)) HP1.out).mono ?_
              rintro e w6 ⟨rfl, I6, B6, K6⟩
              have I6 := Aside0.mk I6
              have B6 := Aside0.mk B6
              have R6 := Kd.R_keep (show Kd.R _ _ _ _ _ _ _ by repeat (first | exact HR.out | apply Kd.R_drewN)) K6 (fun k hk => Nat.ne_of_gt hk)
              obtain ⟨hx9, hf9⟩ := Kd.R_celln 0 R6 i c20 c1
              have HP := Kd.R_putg R6 i (wrap64 (1 + p1))
              clear K6 R6 hx
              go_wp2_with ((with_reducible refine gate_store (t := 3) (p := 44) rfl ?_); refine store_event (t := 3) (p := 44) (v := ?vo_w12) (w1 := (w6.setCell ⟨gA, i.toNat, none⟩ (.int .i64 (wrap64 (1 + p1))))) ?hg ?ho ?hn ?hr ?_; (case ho => rfl); (case hg => rfl); (case hn => rfl); (case hr => first | (go_simp; done) | (go_simp; rfl)); intro w7 hw; have hg : w6.grownBy w7 (some gA) := (by rw [hw]; exact HP.2); have R7 := Aside0.mk (show Kd.R (Kd.int .i64) 3 w7 w.heap.size (fun k => w.heap.size < k) (.slice (some ⟨gA, 0, none⟩) b1.length cb) (X.set i.toNat (wrap64 (1 + p1))) from (by rw [hw]; exact HP.1)); have B7 := Aside0.mk ((by rw [hw]; exact below_set B6.out (Nat.le_of_lt GBA.out) : Below w.heap.size w w7)); have I7 := Aside0.mk (I6.out.grown hg (fun e => by have := GBA.out; injection e with e; omega)); clear HP hw hg hx9 hf9)
              go_roundg k1
              case measure => have := HK.out; omega
              case rel => exact ⟨X.set i.toNat (wrap64 (1 + p1)), wrap64 (i + 1), p2, p3, rfl, H', ⟨by have := HK.out; omega⟩, ⟨by rw [List.length_set]; exact HL.out⟩, ⟨by repeat (first | exact R7.out | apply Kd.R_drewN)⟩, ⟨by repeat (first | exact I7.out | apply IsS46.drewN)⟩, ⟨by repeat (first | exact B7.out | apply pw_below_drewN)⟩⟩
            · as_aux_lemma =>
              rw [if_neg c4] at H
              have c4b : (rd X i == 0) = false := beq_eq_false_iff_ne.2 c4
              have H' := Aside0.mk H
              clear H
              go_wp2_with fail
              refine (HF.out _ (by repeat (first | exact CX.out | apply Kd.C_drewN))).mono ?_
              rintro e w5 ⟨rfl, ⟨q5, rfl⟩⟩
              go_wp2
              go_roundg k1
              case measure => have := HK.out; omega
              case rel => exact ⟨X, wrap64 (i + 1), s1, s2, rfl, H', ⟨by have := HK.out; omega⟩, HL, ⟨by repeat (first | exact HR.out | apply Kd.R_drewN)⟩, ⟨by repeat (first | exact HI.out | apply IsS46.drewN)⟩, ⟨by repeat (first | exact HB.out | apply pw_below_drewN)⟩⟩
          · as_aux_lemma =>
            rw [if_neg c3] at H
            have c3b : decide (6 < t) = false := decide_eq_false c3
            have H' := Aside0.mk H
            clear H
            go_wp2_with fail
            refine (HF.out _ (by repeat (first | exact CX.out | apply Kd.C_drewN))).mono ?_
            rintro e w5 ⟨rfl, ⟨q5, rfl⟩⟩
            go_wp2
            go_roundg k1
            case measure => have := HK.out; omega
            case rel => exact ⟨X, wrap64 (i + 1), s1, s2, rfl, H', ⟨by have := HK.out; omega⟩, HL, ⟨by repeat (first | exact HR.out | apply Kd.R_drewN)⟩, ⟨by repeat (first | exact HI.out | apply IsS46.drewN)⟩, ⟨by repeat (first | exact HB.out | apply pw_below_drewN)⟩⟩
        · rw [if_neg c20] at H
          exact absurd H (by simp)
      · rw [if_neg c1] at H
        injection H with H
        injection H with h1 H
        injection H with h2 h3
        subst h1 h2 h3
        clear CX CL HL HK
        go_wp2_with fail
        refine (spec_l1Cur_one.calls w.heap.size l0 s1 s2 20 o1 o2 o3 w _ (by repeat (first | exact HI.out | apply IsS46.drewN)) (by repeat (first | exact HB.out | apply pw_below_drewN)) HO1.out).mono ?_
        rintro e w5 ⟨rfl, I5, B5, K5⟩
        have I5 := Aside0.mk I5
        have B5 := Aside0.mk B5
        have R5 := Aside0.mk (Kd.R_keep (show Kd.R _ _ _ _ _ _ _ by repeat (first | exact HR.out | apply Kd.R_drewN)) K5 (fun k hk => Nat.ne_of_gt hk))
        clear K5 HI HB HR
        cases o1 with
        | true =>
          have hh := HH.out
          rw [if_pos rfl] at hh
          injection hh with hh
          injection hh with h1 hh
          injection hh with h2 hh
          injection hh with h3 h4
          subst h1 h2 h4
          have HR3 := Aside0.mk h3
          clear h3 HH R5
          go_wp2_with (first | ((with_reducible refine gate_dst (N := 48) rfl ?_); refine Kd.R_make (Kd.int .i64) _ 3 rfl (N := 48) rfl 24 _ _ rfl (10 : Int) rfl rfl Try.underlying24 (.int .i64 0) 8 info3 rfl (by decide) (by omega) 0 (ok := fun _ => True) (okp := fun _ => True) rfl (fun _ hk => hk) trivial (by omega) (by decide) (Below.refl _ _) (Nat.le_refl _) ?_; intro v7 w7 ho hb hg_ hat; clear hg_ hat; have R7 := Aside0.mk (Kd.R_lower (Kd.R_mono (ok' := fun k => w.heap.size < k) (Kd.R_bound ho) (fun k hk => Nat.lt_of_lt_of_le (by have := IsS46.lt I5.out; simpa using this) hk.2.1)) (show w.heap.size ≤ _ from Nat.le_of_lt (by have := IsS46.lt I5.out; simpa using this))); have hb2 := below_step (show Below w5.heap.size w5 _ by repeat (first | exact Below.refl _ _ | apply pw_below_drewN)) hb; have I7 := Aside0.mk (I5.out.below hb2); have B7 := Aside0.mk (below_step B5.out hb2); clear ho hb hb2) | ((with_reducible refine gate_dst (N := 53) rfl ?_); refine Kd.R_lit (Kd.int .i64) _ 3 ?hg (N := 53) ?hd (xs := ([1, 2, 1, 2, 1, 2, 1, 2, 0, 3] : List Int)) (inner := [.int .i64 1, .int .i64 2, .int .i64 1, .int .i64 2, .int .i64 1, .int .i64 2, .int .i64 1, .int .i64 2, .int .i64 0, .int .i64 3]) (ok := fun _ => True) (okp := fun _ => True) ?hr ?hp (fun _ hk => hk) trivial (Below.refl _ _) (Nat.le_refl _) (by simp) ?_; (case hd => rfl); (case hg => rfl); (case hr => first | (go_simp; done) | (go_simp; rfl)); (case hp => exact (Reps.one (show Kd.M (Kd.int .i64) _ _ _ 1 [.int .i64 1] from rfl) (Reps.one (show Kd.M (Kd.int .i64) _ _ _ 2 [.int .i64 2] from rfl) (Reps.one (show Kd.M (Kd.int .i64) _ _ _ 1 [.int .i64 1] from rfl) (Reps.one (show Kd.M (Kd.int .i64) _ _ _ 2 [.int .i64 2] from rfl) (Reps.one (show Kd.M (Kd.int .i64) _ _ _ 1 [.int .i64 1] from rfl) (Reps.one (show Kd.M (Kd.int .i64) _ _ _ 2 [.int .i64 2] from rfl) (Reps.one (show Kd.M (Kd.int .i64) _ _ _ 1 [.int .i64 1] from rfl) (Reps.one (show Kd.M (Kd.int .i64) _ _ _ 2 [.int .i64 2] from rfl) (Reps.one (show Kd.M (Kd.int .i64) _ _ _ 0 [.int .i64 0] from rfl) (Reps.one (show Kd.M (Kd.int .i64) _ _ _ 3 [.int .i64 3] from rfl) (Reps.none _ _)))))))))))); intro ve_ w8 ho hb hg_ hnew_; clear hg_ hnew_; rw [← HY.out] at ho; have hbs := Kd.R_base ho; obtain ⟨Ae, ce, rfl⟩ := Kd.R_slice ho; obtain ⟨_, k2, k3⟩ := Kd.R_reads' ho; have b4 := below_step (show Below w7.heap.size w7 _ by repeat (first | exact Below.refl _ _ | apply pw_below_drewN)) hb; have hlt3 := below_size b4; have hfar : ∀ ad, Ae = some ad → 0 < y.length → ad.block ≠ w.heap.size := (fun ad ha _ => by subst ha; obtain ⟨g2, rfl⟩ := Kd.R_head ho; have q1 := hbs g2 rfl; have q2 := IsS46.lt I7.out; simp at q1 ⊢; omega); have I8 := Aside0.mk (I7.out.below b4); have B8 := Aside0.mk (below_step B7.out b4); have R8 := Aside0.mk (Kd.R_below R7.out b4); have Ke := Aside0.mk (And.intro k2 (And.intro k3 hfar)); clear ho hbs k2 k3 hfar b4 hb hlt3))
          refine (spec_l1Cur_among.calls w.heap.size l0 o2 o3 _ _ y v1 v2 v3 w _ (by repeat (first | exact I8.out | apply IsS46.drewN)) (by repeat (first | exact B8.out | apply pw_below_drewN)) (by repeat (first | exact Ke.out.2.1 | apply Kd.C_drewN)) Ke.out.1 Ke.out.2.2 HV.out).mono ?_
          rintro e w9 ⟨rfl, I9, B9, KP⟩
          have R9 := Aside0.mk (Kd.R_keep (show Kd.R _ _ _ _ _ _ _ by repeat (first | exact R8.out | apply Kd.R_drewN)) KP (fun k hk => Nat.ne_of_gt hk))
          have I9 := Aside0.mk I9
          have B9 := Aside0.mk B9
          clear KP Ke
          go_wp2
          (try simp only [Exit.inBlock, Exit.then])
          refine bodyPost_ret (results_tmp4 rfl _ _ _) rfl ?_
          exact ⟨_, rfl, by rw [← HR3.out]; exact Kd.R_mono (show Kd.R _ _ _ _ _ _ _ by repeat (first | exact R9.out | apply Kd.R_drewN)) (fun _ _ => trivial), by repeat (first | exact B9.out | apply pw_below_drewN)⟩
        | false =>
          have hh := HH.out
          rw [if_neg (by decide)] at hh
          injection hh with hh
          injection hh with h1 hh
          injection hh with h2 hh
          injection hh with h3 h4
          subst h1 h2 h3 h4
          clear HH
          go_wp2_with ((with_reducible refine gate_dst (N := 53) rfl ?_); refine Kd.R_lit (Kd.int .i64) _ 3 ?hg (N := 53) ?hd (xs := ([1, 2, 1, 2, 1, 2, 1, 2, 0, 3] : List Int)) (inner := [.int .i64 1, .int .i64 2, .int .i64 1, .int .i64 2, .int .i64 1, .int .i64 2, .int .i64 1, .int .i64 2, .int .i64 0, .int .i64 3]) (ok := fun _ => True) (okp := fun _ => True) ?hr ?hp (fun _ hk => hk) trivial (Below.refl _ _) (Nat.le_refl _) (by simp) ?_; (case hd => rfl); (case hg => rfl); (case hr => first | (go_simp; done) | (go_simp; rfl)); (case hp => exact (Reps.one (show Kd.M (Kd.int .i64) _ _ _ 1 [.int .i64 1] from rfl) (Reps.one (show Kd.M (Kd.int .i64) _ _ _ 2 [.int .i64 2] from rfl) (Reps.one (show Kd.M (Kd.int .i64) _ _ _ 1 [.int .i64 1] from rfl) (Reps.one (show Kd.M (Kd.int .i64) _ _ _ 2 [.int .i64 2] from rfl) (Reps.one (show Kd.M (Kd.int .i64) _ _ _ 1 [.int .i64 1] from rfl) (Reps.one (show Kd.M (Kd.int .i64) _ _ _ 2 [.int .i64 2] from rfl) (Reps.one (show Kd.M (Kd.int .i64) _ _ _ 1 [.int .i64 1] from rfl) (Reps.one (show Kd.M (Kd.int .i64) _ _ _ 2 [.int .i64 2] from rfl) (Reps.one (show Kd.M (Kd.int .i64) _ _ _ 0 [.int .i64 0] from rfl) (Reps.one (show Kd.M (Kd.int .i64) _ _ _ 3 [.int .i64 3] from rfl) (Reps.none _ _)))))))))))); intro ve_ w8 ho hb hg_ hnew_; clear hg_ hnew_; rw [← HY.out] at ho; have hbs := Kd.R_base ho; obtain ⟨Ae, ce, rfl⟩ := Kd.R_slice ho; obtain ⟨_, k2, k3⟩ := Kd.R_reads' ho; have b4 := below_step (show Below w5.heap.size w5 _ by repeat (first | exact Below.refl _ _ | apply pw_below_drewN)) hb; have hlt3 := below_size b4; have hfar : ∀ ad, Ae = some ad → 0 < y.length → ad.block ≠ w.heap.size := (fun ad ha _ => by subst ha; obtain ⟨g2, rfl⟩ := Kd.R_head ho; have q1 := hbs g2 rfl; have q2 := IsS46.lt I5.out; simp at q1 ⊢; omega); have I8 := Aside0.mk (I5.out.below b4); have B8 := Aside0.mk (below_step B5.out b4); have R8 := Aside0.mk (Kd.R_below R5.out b4); have Ke := Aside0.mk (And.intro k2 (And.intro k3 hfar)); clear ho hbs k2 k3 hfar b4 hb hlt3)
          refine (spec_l1Cur_among.calls w.heap.size l0 o2 o3 _ _ y v1 v2 v3 w _ (by repeat (first | exact I8.out | apply IsS46.drewN)) (by repeat (first | exact B8.out | apply pw_below_drewN)) (by repeat (first | exact Ke.out.2.1 | apply Kd.C_drewN)) Ke.out.1 Ke.out.2.2 HV.out).mono ?_
          rintro e w9 ⟨rfl, I9, B9, KP⟩
          have R9 := Aside0.mk (Kd.R_keep (show Kd.R _ _ _ _ _ _ _ by repeat (first | exact R8.out | apply Kd.R_drewN)) KP (fun k hk => Nat.ne_of_gt hk))
          have I9 := Aside0.mk I9
          have B9 := Aside0.mk B9
          clear KP Ke
          go_wp2
          (try simp only [Exit.inBlock, Exit.then])
          refine bodyPost_ret (results_tmp4 rfl _ _ _) rfl ?_
          exact ⟨_, rfl, Kd.R_mono (show Kd.R _ _ _ _ _ _ _ by repeat (first | exact R9.out | apply Kd.R_drewN)) (fun _ _ => trivial), by repeat (first | exact B9.out | apply pw_below_drewN)⟩
end Go.Proofs.Ytjajahofbhcioaa.Given
