/- impl.border by hand (places of an array written by numbers, the library's Index, appends); for sides 0 to 8. -/
import Derived.Test.YtcnplmajlanmdaaQx2
import Derived.Test.YtcnplmajlanmdaaGb
import Derived.Lib.Walk
import Derived.Outline
import Derived.WalkLawsBesides
namespace Go.Proofs.Ytcnplmajlanmdaa.Given
open Go.Proofs.Ytcnplmajlanmdaa.Q Go.RowKit Go.Proofs.YtcnplmajlanmdaaW.PrintWords Go.Proofs.YtcnplmajlanmdaaW.PrintLast Go.Proofs.YtcnplmajlanmdaaW.PrintMore
set_option linter.unusedVariables false
set_option linter.unusedSimpArgs false

theorem infoB : (Try.prog.info? 3).map (fun i => (i.zero, i.size, i.bytes)) = some (some (.int .i64 0), 1, 8) := by kernel_rfl
theorem lit0B (w : World) (B : Nat) (ok : Nat → Prop) (hB : B ≤ w.heap.size) (ho : ok w.heap.size) : Kd.R (Kd.int .i64) 3 (w.alloc (.cells #[] 3)) B ok (.slice (some ⟨w.heap.size, 0, none⟩) 0 0) [] :=
  ⟨fun k hk => by simp [Value.ownBlock] at hk; subst hk; exact ho, [], ⟨rfl, .inr ⟨w.heap.size, 0, #[], rfl, hB, by show (w.heap.push _)[w.heap.size]? = _; simp, Nat.le_refl _, Nat.zero_le _, rfl, rfl⟩⟩, Reps.none _ _⟩

/-- The number of the point t of the side s of the border. -/
def bix (ps : List S52) (n : Int) : Nat → Int → Int
  | 0, t => gidx (eqS (n - t) t 0) 0 ps
  | 1, t => gidx (eqS 0 (n - t) t) 0 ps
  | _, t => gidx (eqS t 0 (n - t)) 0 ps
def sideL (ps : List S52) (n : Int) (s : Nat) : Nat → List Int
  | 0 => []
  | m + 1 => sideL ps n s m ++ [bix ps n s m]
theorem sideL_len (ps : List S52) (n : Int) (s m : Nat) : (sideL ps n s m).length = m := by
  induction m with
  | zero => rfl
  | succ m ih => simp [sideL, ih]
def bord (ps : List S52) (n : Int) : Nat → List Int
  | 0 => []
  | s + 1 => bord ps n s ++ sideL ps n s n.toNat
theorem bord_len (ps : List S52) (n : Int) (s : Nat) : (bord ps n s).length = s * n.toNat := by
  induction s with
  | zero => simp [bord]
  | succ s ih => simp [bord, ih, sideL_len, Nat.succ_mul]
def impl_border.f (k : Nat) (a0 : Int) : Option (List Int) := (impl_points.f k a0).bind fun ps => if 0 ≤ a0 ∧ a0 ≤ 8 then some (bord ps a0 3) else none
theorem impl_border.mono : ∀ a0 k, LeO (impl_border.f k a0) (impl_border.f (k + 1) a0) := by
  intro a0 k
  unfold impl_border.f
  exact LeO.bind (impl_points.mono _ _) (fun _ => LeO.refl _)

theorem gslice_r (ps : List S52) (a b c : Int) : slices_Index_3_int_3_int.f ps a b c = some (gidx (eqS a b c) 0 ps) := rfl

set_option maxHeartbeats 4000000 in
set_option maxRecDepth 100000 in
theorem impl_border.calls (k : Nat) (a0 : Int) (r : List Int) (w : World) (h : impl_border.f k a0 = some r) :
    Calls Try.prog 62 #[.int .i64 a0] w fun e w' => ∃ v0_ : Value, e = .returned (v0_) ∧ Kd.R (Kd.int .i64) 3 w' w.heap.size (fun _ => True) v0_ r ∧ Below w.heap.size w w' := by
  obtain ⟨ps, hps, h⟩ := Option.bind_eq_some_iff.mp h
  have HPS := Aside0.mk hps
  clear hps
  by_cases hc : 0 ≤ a0 ∧ a0 ≤ 8
  case neg => rw [if_neg hc] at h; cases h
  rw [if_pos hc] at h
  have HR := Aside0.mk (Option.some.inj h)
  clear h
  obtain ⟨i0, i1⟩ := hc
  have hu := Try.underlying52
  go_enter Try.func62, Try.ntmps62
  go_wp2_with fail
  have RO := Aside0.mk (lit0B w w.heap.size (fun _ => True) (Nat.le_refl _) trivial)
  have B2 := Aside0.mk (below_alloc (Below.refl w.heap.size w) (.cells #[] 3))
  have hn : w.heap.size < (w.alloc (.cells #[] 3)).heap.size := by simp
  generalize (w.alloc (.cells #[] 3)) = w2 at RO B2 hn ⊢
  refine (impl_points.calls k _ ps _ HPS.out).mono ?_
  rintro e w3 ⟨vp, rfl, RP, B3⟩
  have RO := Aside0.mk (Kd.R_mono (Kd.R_below (Kd.R_bound RO.out) B3) (ok' := fun k_ => some k_ ≠ vp.ownBlock) (fun k_ hk e => by have := Kd.R_base RP k_ e.symm; have := hk.2.2.1; omega))
  have RP := Aside0.mk (Kd.R_lower (Kd.R_mono (Kd.R_bound RP) (ok' := fun k_ => some k_ ≠ (Value.slice (some ⟨w.heap.size, 0, none⟩) 0 0).ownBlock) (fun k_ hk e => by simp [Value.ownBlock] at e; have := hk.2.1; omega)) B2.out.size)
  have B3 := Aside0.mk (B2.out.trans (B3.mono B2.out.size))
  clear hn
  obtain ⟨Ap, cp, rfl⟩ := Kd.R_slice RP.out
  go_wp2
  go_loopg [3, 11] 3 (fun gg s3 s11 wr => ∃ kk : Int, (kk = 0 ∨ kk = 1 ∨ kk = 2 ∨ kk = 3) ∧ (3 - kk).toNat ≤ gg ∧ s11 = .int .i64 kk ∧ Aside0 (Kd.R (Kd.int .i64) 3 wr w.heap.size (fun k_ => some k_ ≠ (Value.slice Ap ps.length cp).ownBlock) s3 (bord ps a0 kk.toNat)) ∧ Aside0 (Kd.R k52 52 wr w.heap.size (fun k_ => some k_ ≠ s3.ownBlock) (.slice Ap ps.length cp) ps) ∧ Aside0 (Below w.heap.size w wr))
  case atStart => exact ⟨0, .inl rfl, by omega, rfl, RO, RP, B3⟩
  case round =>
    clear RO RP B3
    obtain ⟨kk, hk, hg, rfl, RO, RP, BB⟩ := hrel
    rcases hk with rfl | rfl | rfl | rfl
    · go_wp2
      go_loopg [3, 15] a0.toNat (fun gg s3 s15 wr => ∃ tt : Nat, (tt : Int) ≤ a0 ∧ a0.toNat - tt ≤ gg ∧ s15 = .int .i64 tt ∧ Aside0 (Kd.R (Kd.int .i64) 3 wr w.heap.size (fun k_ => some k_ ≠ (Value.slice Ap ps.length cp).ownBlock) s3 (bord ps a0 0 ++ sideL ps a0 0 tt)) ∧ Aside0 (Kd.R k52 52 wr w.heap.size (fun k_ => some k_ ≠ s3.ownBlock) (.slice Ap ps.length cp) ps) ∧ Aside0 (Below w.heap.size w wr))
      case atStart => exact ⟨0, by omega, by omega, rfl, ⟨by simpa [sideL] using RO.out⟩, RP, BB⟩
      case round =>
        clear RO RP BB
        obtain ⟨tt, ht, hg2, rfl, RO, RP, BB⟩ := hrel
        have LEN := Aside0.mk (show (bord ps a0 0 ++ sideL ps a0 0 tt).length < 1000 by rw [List.length_append, bord_len, sideL_len]; omega)
        by_cases hlt : (tt : Int) < a0
        · have t0 : 0 ≤ (tt : Int) := by omega
          have EX := Aside0.mk (show bord ps a0 0 ++ sideL ps a0 0 (tt + 1) = (bord ps a0 0 ++ sideL ps a0 0 tt) ++ [bix ps a0 0 tt] by simp [sideL])
          generalize bord ps a0 0 ++ sideL ps a0 0 tt = l at RO LEN EX
          go_wp2_with fail
          refine (slices_Index_3_int_3_int.calls _ _ ps _ _ _ _ _ ?hCa0 ?hCb0 (gslice_r _ _ _ _)).mono ?_
          case hCa0 => repeat (first | exact (Kd.R_reads' RP.out).2.2 | apply Kd.C_alloc | apply Kd.C_drewN | apply Kd.C_drew)
          case hCb0 => exact (Kd.R_reads' RP.out).2.1
          rintro e w5 ⟨rfl, B5⟩
          have ro_ := Aside0.mk (Kd.R_below (by (with_reducible repeat (first | apply Kd.R_alloc | apply Kd.R_drewN | apply Kd.R_drew)); exact RO.out) B5)
          have rp_ := Aside0.mk (Kd.R_below (by (with_reducible repeat (first | apply Kd.R_alloc | apply Kd.R_drewN | apply Kd.R_drew)); exact RP.out) B5)
          have bb_ := Aside0.mk (below_step (by repeat (first | exact BB.out | apply below_alloc | apply pw_below_drewN | apply below_drew1)) B5)
          clear RO RP BB B5
          have RO := ro_
          have RP := rp_
          have BB := bb_
          clear ro_ rp_ bb_
          go_wp2_with (at_builtin; refine Kd.R_append (Kd.int .i64) (w0 := w) w.heap.size rfl (.tmp 29) (.tmp 33) 22 3 (.int .i64 0) 8 rfl Try.underlying22 infoB rfl (by decide) (by omega) u3 l (bix ps a0 0 tt) [.int .i64 (bix ps a0 0 tt)] (fun k_ => some k_ ≠ (Value.slice Ap ps.length cp).ownBlock) (fun _ => False) rfl rfl ?aP0 (fun _ hk => hk.elim) ?aF0 ?aO0 ?aB0 ?a0S ?aL0 ?_; (case aP0 => exact rfl); (case aB0 => exact (by repeat (first | exact BB.out | apply below_alloc | apply pw_below_drewN | apply below_drew1))); (case aF0 => exact (fun k_ hk => Kd.fresh' (Kd.R_lt (by (with_reducible repeat (first | apply Kd.R_alloc | apply Kd.R_drewN | apply Kd.R_drew)); exact RP.out)) k_ hk)); (case aO0 => exact (by (with_reducible repeat (first | apply Kd.R_alloc | apply Kd.R_drewN | apply Kd.R_drew)); exact RO.out)); (case a0S => exact (below_size (by repeat (first | exact BB.out | apply below_alloc | apply pw_below_drewN | apply below_drew1)))); (case aL0 => have := LEN.out; omega); intro v220 w11 ho hb hg hat; have rp_ := Aside0.mk (Kd.R_after (ok := (fun _ => True)) (by (with_reducible repeat (first | apply Kd.R_alloc | apply Kd.R_drewN | apply Kd.R_drew)); exact Kd.R_mono RP.out (fun _ hk => ⟨trivial, hk⟩)) hg hat); have HO := Aside0.mk ho; have HBB := Aside0.mk hb; clear ho hb hg hat)
          go_roundg (a0.toNat - (tt + 1))
          case measure => omega
          case rel =>
            refine ⟨tt + 1, by omega, by omega, by go_num, ⟨?_⟩, ⟨Kd.R_mono rp_.out (fun _ hk => hk.2)⟩, HBB⟩
            rw [EX.out]
            exact HO.out
        · have he : (tt : Int) = a0 := by omega
          have het : tt = a0.toNat := by omega
          have HT := Aside0.mk het
          have hlt' : ¬ (tt : Int) < a0 := hlt
          clear he het
          go_wp2
          go_roundg (3 - (0 + 1))
          case measure => omega
          case rel => exact ⟨1, by omega, by omega, by first | rfl | go_num, ⟨by have := RO.out; rw [HT.out] at this; exact this⟩, RP, BB⟩
    · go_wp2
      go_loopg [3, 15] a0.toNat (fun gg s3 s15 wr => ∃ tt : Nat, (tt : Int) ≤ a0 ∧ a0.toNat - tt ≤ gg ∧ s15 = .int .i64 tt ∧ Aside0 (Kd.R (Kd.int .i64) 3 wr w.heap.size (fun k_ => some k_ ≠ (Value.slice Ap ps.length cp).ownBlock) s3 (bord ps a0 1 ++ sideL ps a0 1 tt)) ∧ Aside0 (Kd.R k52 52 wr w.heap.size (fun k_ => some k_ ≠ s3.ownBlock) (.slice Ap ps.length cp) ps) ∧ Aside0 (Below w.heap.size w wr))
      case atStart => exact ⟨0, by omega, by omega, rfl, ⟨by simpa [sideL] using RO.out⟩, RP, BB⟩
      case round =>
        clear RO RP BB
        obtain ⟨tt, ht, hg2, rfl, RO, RP, BB⟩ := hrel
        have LEN := Aside0.mk (show (bord ps a0 1 ++ sideL ps a0 1 tt).length < 1000 by rw [List.length_append, bord_len, sideL_len]; omega)
        by_cases hlt : (tt : Int) < a0
        · have t0 : 0 ≤ (tt : Int) := by omega
          have EX := Aside0.mk (show bord ps a0 1 ++ sideL ps a0 1 (tt + 1) = (bord ps a0 1 ++ sideL ps a0 1 tt) ++ [bix ps a0 1 tt] by simp [sideL])
          generalize bord ps a0 1 ++ sideL ps a0 1 tt = l at RO LEN EX
          go_wp2_with fail
          refine (slices_Index_3_int_3_int.calls _ _ ps _ _ _ _ _ ?hCa1 ?hCb1 (gslice_r _ _ _ _)).mono ?_
          case hCa1 => repeat (first | exact (Kd.R_reads' RP.out).2.2 | apply Kd.C_alloc | apply Kd.C_drewN | apply Kd.C_drew)
          case hCb1 => exact (Kd.R_reads' RP.out).2.1
          rintro e w5 ⟨rfl, B5⟩
          have ro_ := Aside0.mk (Kd.R_below (by (with_reducible repeat (first | apply Kd.R_alloc | apply Kd.R_drewN | apply Kd.R_drew)); exact RO.out) B5)
          have rp_ := Aside0.mk (Kd.R_below (by (with_reducible repeat (first | apply Kd.R_alloc | apply Kd.R_drewN | apply Kd.R_drew)); exact RP.out) B5)
          have bb_ := Aside0.mk (below_step (by repeat (first | exact BB.out | apply below_alloc | apply pw_below_drewN | apply below_drew1)) B5)
          clear RO RP BB B5
          have RO := ro_
          have RP := rp_
          have BB := bb_
          clear ro_ rp_ bb_
          go_wp2_with (at_builtin; refine Kd.R_append (Kd.int .i64) (w0 := w) w.heap.size rfl (.tmp 29) (.tmp 33) 22 3 (.int .i64 0) 8 rfl Try.underlying22 infoB rfl (by decide) (by omega) u3 l (bix ps a0 1 tt) [.int .i64 (bix ps a0 1 tt)] (fun k_ => some k_ ≠ (Value.slice Ap ps.length cp).ownBlock) (fun _ => False) rfl rfl ?aP1 (fun _ hk => hk.elim) ?aF1 ?aO1 ?aB1 ?a1S ?aL1 ?_; (case aP1 => exact rfl); (case aB1 => exact (by repeat (first | exact BB.out | apply below_alloc | apply pw_below_drewN | apply below_drew1))); (case aF1 => exact (fun k_ hk => Kd.fresh' (Kd.R_lt (by (with_reducible repeat (first | apply Kd.R_alloc | apply Kd.R_drewN | apply Kd.R_drew)); exact RP.out)) k_ hk)); (case aO1 => exact (by (with_reducible repeat (first | apply Kd.R_alloc | apply Kd.R_drewN | apply Kd.R_drew)); exact RO.out)); (case a1S => exact (below_size (by repeat (first | exact BB.out | apply below_alloc | apply pw_below_drewN | apply below_drew1)))); (case aL1 => have := LEN.out; omega); intro v220 w11 ho hb hg hat; have rp_ := Aside0.mk (Kd.R_after (ok := (fun _ => True)) (by (with_reducible repeat (first | apply Kd.R_alloc | apply Kd.R_drewN | apply Kd.R_drew)); exact Kd.R_mono RP.out (fun _ hk => ⟨trivial, hk⟩)) hg hat); have HO := Aside0.mk ho; have HBB := Aside0.mk hb; clear ho hb hg hat)
          go_roundg (a0.toNat - (tt + 1))
          case measure => omega
          case rel =>
            refine ⟨tt + 1, by omega, by omega, by go_num, ⟨?_⟩, ⟨Kd.R_mono rp_.out (fun _ hk => hk.2)⟩, HBB⟩
            rw [EX.out]
            exact HO.out
        · have he : (tt : Int) = a0 := by omega
          have het : tt = a0.toNat := by omega
          have HT := Aside0.mk het
          have hlt' : ¬ (tt : Int) < a0 := hlt
          clear he het
          go_wp2
          go_roundg (3 - (1 + 1))
          case measure => omega
          case rel => exact ⟨2, by omega, by omega, by first | rfl | go_num, ⟨by have := RO.out; rw [HT.out] at this; exact this⟩, RP, BB⟩
    · go_wp2
      go_loopg [3, 15] a0.toNat (fun gg s3 s15 wr => ∃ tt : Nat, (tt : Int) ≤ a0 ∧ a0.toNat - tt ≤ gg ∧ s15 = .int .i64 tt ∧ Aside0 (Kd.R (Kd.int .i64) 3 wr w.heap.size (fun k_ => some k_ ≠ (Value.slice Ap ps.length cp).ownBlock) s3 (bord ps a0 2 ++ sideL ps a0 2 tt)) ∧ Aside0 (Kd.R k52 52 wr w.heap.size (fun k_ => some k_ ≠ s3.ownBlock) (.slice Ap ps.length cp) ps) ∧ Aside0 (Below w.heap.size w wr))
      case atStart => exact ⟨0, by omega, by omega, rfl, ⟨by simpa [sideL] using RO.out⟩, RP, BB⟩
      case round =>
        clear RO RP BB
        obtain ⟨tt, ht, hg2, rfl, RO, RP, BB⟩ := hrel
        have LEN := Aside0.mk (show (bord ps a0 2 ++ sideL ps a0 2 tt).length < 1000 by rw [List.length_append, bord_len, sideL_len]; omega)
        by_cases hlt : (tt : Int) < a0
        · have t0 : 0 ≤ (tt : Int) := by omega
          have EX := Aside0.mk (show bord ps a0 2 ++ sideL ps a0 2 (tt + 1) = (bord ps a0 2 ++ sideL ps a0 2 tt) ++ [bix ps a0 2 tt] by simp [sideL])
          generalize bord ps a0 2 ++ sideL ps a0 2 tt = l at RO LEN EX
          go_wp2_with fail
          refine (slices_Index_3_int_3_int.calls _ _ ps _ _ _ _ _ ?hCa2 ?hCb2 (gslice_r _ _ _ _)).mono ?_
          case hCa2 => repeat (first | exact (Kd.R_reads' RP.out).2.2 | apply Kd.C_alloc | apply Kd.C_drewN | apply Kd.C_drew)
          case hCb2 => exact (Kd.R_reads' RP.out).2.1
          rintro e w5 ⟨rfl, B5⟩
          have ro_ := Aside0.mk (Kd.R_below (by (with_reducible repeat (first | apply Kd.R_alloc | apply Kd.R_drewN | apply Kd.R_drew)); exact RO.out) B5)
          have rp_ := Aside0.mk (Kd.R_below (by (with_reducible repeat (first | apply Kd.R_alloc | apply Kd.R_drewN | apply Kd.R_drew)); exact RP.out) B5)
          have bb_ := Aside0.mk (below_step (by repeat (first | exact BB.out | apply below_alloc | apply pw_below_drewN | apply below_drew1)) B5)
          clear RO RP BB B5
          have RO := ro_
          have RP := rp_
          have BB := bb_
          clear ro_ rp_ bb_
          go_wp2_with (at_builtin; refine Kd.R_append (Kd.int .i64) (w0 := w) w.heap.size rfl (.tmp 29) (.tmp 33) 22 3 (.int .i64 0) 8 rfl Try.underlying22 infoB rfl (by decide) (by omega) u3 l (bix ps a0 2 tt) [.int .i64 (bix ps a0 2 tt)] (fun k_ => some k_ ≠ (Value.slice Ap ps.length cp).ownBlock) (fun _ => False) rfl rfl ?aP2 (fun _ hk => hk.elim) ?aF2 ?aO2 ?aB2 ?a2S ?aL2 ?_; (case aP2 => exact rfl); (case aB2 => exact (by repeat (first | exact BB.out | apply below_alloc | apply pw_below_drewN | apply below_drew1))); (case aF2 => exact (fun k_ hk => Kd.fresh' (Kd.R_lt (by (with_reducible repeat (first | apply Kd.R_alloc | apply Kd.R_drewN | apply Kd.R_drew)); exact RP.out)) k_ hk)); (case aO2 => exact (by (with_reducible repeat (first | apply Kd.R_alloc | apply Kd.R_drewN | apply Kd.R_drew)); exact RO.out)); (case a2S => exact (below_size (by repeat (first | exact BB.out | apply below_alloc | apply pw_below_drewN | apply below_drew1)))); (case aL2 => have := LEN.out; omega); intro v220 w11 ho hb hg hat; have rp_ := Aside0.mk (Kd.R_after (ok := (fun _ => True)) (by (with_reducible repeat (first | apply Kd.R_alloc | apply Kd.R_drewN | apply Kd.R_drew)); exact Kd.R_mono RP.out (fun _ hk => ⟨trivial, hk⟩)) hg hat); have HO := Aside0.mk ho; have HBB := Aside0.mk hb; clear ho hb hg hat)
          go_roundg (a0.toNat - (tt + 1))
          case measure => omega
          case rel =>
            refine ⟨tt + 1, by omega, by omega, by go_num, ⟨?_⟩, ⟨Kd.R_mono rp_.out (fun _ hk => hk.2)⟩, HBB⟩
            rw [EX.out]
            exact HO.out
        · have he : (tt : Int) = a0 := by omega
          have het : tt = a0.toNat := by omega
          have HT := Aside0.mk het
          have hlt' : ¬ (tt : Int) < a0 := hlt
          clear he het
          go_wp2
          go_roundg (3 - (2 + 1))
          case measure => omega
          case rel => exact ⟨3, by omega, by omega, by first | rfl | go_num, ⟨by have := RO.out; rw [HT.out] at this; exact this⟩, RP, BB⟩
    · have hr : r = bord ps a0 3 := HR.out.symm
      subst hr
      go_wp2
      go_ret
      exact ⟨_, rfl, Kd.R_mono RO.out (fun _ _ => trivial), BB.out⟩
end Go.Proofs.Ytcnplmajlanmdaa.Given
