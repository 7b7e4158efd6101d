/- impl.TurnLabels and impl.MirrorLabels by hand: impl.moved with function values; for all slices that read as lists. -/
import Derived.Test.YtjcnmcbapjkmhaaQx1
import Derived.Test.YtjcnmcbapjkmhaaQx4
import Derived.Test.YtjcnmcbapjkmhaaQx5
import Derived.Test.YtjcnmcbapjkmhaaGa
import Derived.Test.YtjcnmcbapjkmhaaGb
import Derived.Test.YtjcnmcbapjkmhaaGf
import Derived.Lib.Walk
import Derived.Shelf.Abstract
import Derived.Outline
namespace Go.Proofs.Ytjcnmcbapjkmhaa.Given
open Go.Proofs.Ytjcnmcbapjkmhaa.Q Go.RowKit Go.Proofs.YtjcnmcbapjkmhaaW.PrintWords Go.Proofs.YtjcnmcbapjkmhaaW.PrintLast Go.Proofs.YtjcnmcbapjkmhaaW.PrintMore
set_option linter.unusedVariables false
set_option linter.unusedSimpArgs false

/-- The place of the point that a point becomes. -/
def mix (F : S47 → S47) (ps : List S47) (j : Nat) : Int := gidx (eqS (F (ps.getD j z47)).f0 (F (ps.getD j z47)).f1 (F (ps.getD j z47)).f2) 0 ps
def movL (F : S47 → S47) (o : Int → Int) (ps : List S47) (l : List Int) : Nat → List Int
  | 0 => []
  | j + 1 => movL F o ps l j ++ [o (rd l (mix F ps j))]
theorem movL_len (F : S47 → S47) (o : Int → Int) (ps : List S47) (l : List Int) (j : Nat) : (movL F o ps l j).length = j := by
  induction j with
  | zero => rfl
  | succ j ih => simp [movL, ih]
def movF (F : S47 → S47) (o : Int → Int) (k : Nat) (a0 : Int) (l1 : List Int) : Option (List Int × Bool) := (impl_areLabels.f a0 l1).bind fun b => if b = true then ((impl_points.f k a0).bind fun ps =>
  if ps.length ≤ 1000 ∧ ∀ j, j < ps.length → 0 ≤ mix F ps j ∧ mix F ps j < (l1.length : Int) then some (movL F o ps l1 ps.length, true) else none) else some ([], false)
theorem movF.mono (F : S47 → S47) (o : Int → Int) : ∀ a0 a1 k, LeO (movF F o k a0 a1) (movF F o (k + 1) a0 a1) := by
  intro a0 a1 k
  unfold movF
  exact LeO.bind (LeO.refl _) (fun _ => LeO.ite (LeO.bind (impl_points.mono _ _) (fun _ => LeO.refl _)) (LeO.refl _))

set_option maxHeartbeats 4000000 in
set_option maxRecDepth 100000 in
theorem moved_any (g1 g2 : Nat) (eg1 : ∀ args w, (callFunc g1 args).run Try.prog w = .ok (.enter g1 args) w) (eg2 : ∀ args w, (callFunc g2 args).run Try.prog w = .ok (.enter g2 args) w)
    (F : S47 → S47) (o : Int → Int)
    (h1 : ∀ (p : S47) (W : World), Calls Try.prog g1 #[.agg #[.int .i64 p.f0, .int .i64 p.f1, .int .i64 p.f2]] W fun e w' => e = .returned (.agg #[.int .i64 (F p).f0, .int .i64 (F p).f1, .int .i64 (F p).f2]) ∧ Below W.heap.size W w')
    (h2 : ∀ (x : Int) (W : World), 0 ≤ x → x ≤ 2 → Calls Try.prog g2 #[.int .i64 x] W fun e w' => e = .returned (.int .i64 (o x)) ∧ Below W.heap.size W w')
    (k : Nat) (a0 : Int) (A1 : Option Addr) (c1 : Nat) (l1 : List Int) (r1 : List Int) (r2 : Bool) (w : World) (hr1 : Kd.C (Kd.int .i64) w A1 l1.length l1) (hc1 : l1.length ≤ c1) (h : movF F o k a0 l1 = some (r1, r2)) :
    Calls Try.prog 71 #[.int .i64 a0, .slice A1 l1.length c1, .func (.func g1) #[] #[], .func (.func g2) #[] #[]] w fun e w' => ∃ v0_ : Value, e = .returned (.tuple #[v0_, .bool r2]) ∧ Kd.R (Kd.int .i64) 3 w' w.heap.size (fun _ => True) v0_ r1 ∧ Below w.heap.size w w' := by
  obtain ⟨b, hb, h⟩ := Option.bind_eq_some_iff.mp h
  have HAL := Aside0.mk hb
  clear hb
  have HL := Aside0.mk hr1
  have HC := Aside0.mk hc1
  have H1 := Aside0.mk h1
  have H2 := Aside0.mk h2
  clear hr1 hc1 h1 h2
  cases b with
  | false =>
    simp only [Bool.false_eq_true, if_false, Option.some.injEq, Prod.mk.injEq] at h
    obtain ⟨rfl, rfl⟩ := h
    go_enter Try.func71, Try.ntmps71
    go_wp2_with fail
    refine (impl_areLabels.calls _ _ _ l1 _ _ HL.out HC.out HAL.out).mono ?_
    rintro e w1 ⟨rfl, ⟨q, rfl⟩⟩
    go_wp2_with fail
    go_ret2
    exact ⟨_, rfl, Kd.R_nil _ _ _ _ _, by repeat (first | exact Below.refl _ _ | apply pw_below_drewN)⟩
  | true =>
    simp only [if_true] at h
    obtain ⟨ps, hps, h⟩ := Option.bind_eq_some_iff.mp h
    have HPS := Aside0.mk hps
    clear hps
    by_cases hc : ps.length ≤ 1000 ∧ ∀ j, j < ps.length → 0 ≤ mix F ps j ∧ mix F ps j < (l1.length : Int)
    case neg => rw [if_neg hc] at h; cases h
    rw [if_pos hc] at h
    simp only [Option.some.injEq, Prod.mk.injEq] at h
    obtain ⟨hr, rfl⟩ := h
    have HR := Aside0.mk hr
    have HX := Aside0.mk hc
    clear hr hc
    have HLB : Aside0 (∀ i : Int, 0 ≤ i → i < (l1.length : Int) → 0 ≤ rd l1 i ∧ rd l1 i ≤ 2) := ⟨fun i i0 i1 => by
      have h := HAL.out
      unfold impl_areLabels.f at h
      obtain ⟨s, _, h⟩ := Option.bind_eq_some_iff.mp h
      obtain ⟨m, _, h⟩ := Option.bind_eq_some_iff.mp h
      have h := Option.some.inj h
      simp only [Bool.and_eq_true, List.all_eq_true] at h
      have hm := h.2.2 (rd l1 i) (by unfold rd; rw [List.getD_eq_getElem?_getD, List.getElem?_eq_getElem (by omega)]; simp)
      unfold inRange at hm
      simpa using hm⟩
    have hm := Kd.C_max HL.out
    go_enter Try.func71, Try.ntmps71
    go_wp2_with fail
    refine (impl_areLabels.calls _ _ _ l1 _ _ HL.out HC.out HAL.out).mono ?_
    rintro e w1 ⟨rfl, ⟨q, rfl⟩⟩
    go_wp2_with fail
    have RO := Aside0.mk (lit0 (w.drewN q) w.heap.size (fun _ => True) (Nat.le_refl _) trivial)
    have B2 := Aside0.mk (below_alloc (pw_below_drewN (Below.refl w.heap.size w) q) (.cells #[] 3))
    have hn : w.heap.size < ((w.drewN q).alloc (.cells #[] 3)).heap.size := by simp
    generalize ((w.drewN q).alloc (.cells #[] 3)) = w2 at RO B2 hn ⊢
    refine (impl_points.calls k _ ps _ HPS.out).mono ?_
    rintro e w3 ⟨vp, rfl, RP, B3⟩
    have RO := Aside0.mk (Kd.R_mono (Kd.R_below (Kd.R_bound RO.out) B3) (ok' := fun k_ => some k_ ≠ vp.ownBlock) (fun k_ hk e => by have := Kd.R_base RP k_ e.symm; have := hk.2.2.1; omega))
    have RP := Aside0.mk (Kd.R_lower (Kd.R_mono (Kd.R_bound RP) (ok' := fun k_ => some k_ ≠ (Value.slice (some ⟨w.heap.size, 0, none⟩) 0 0).ownBlock) (fun k_ hk e => by simp [Value.ownBlock] at e; have := hk.2.1; omega)) B2.out.size)
    have B3 := Aside0.mk (B2.out.trans (B3.mono B2.out.size))
    clear hn
    obtain ⟨Ap, cp, rfl⟩ := Kd.R_slice RP.out
    have hmp := Kd.C_max (Kd.R_reads' RP.out).2.2
    go_wp2
    go_loopg [10, 23] ps.length (fun gg s10 s23 wr => ∃ kk : Nat, kk ≤ ps.length ∧ ps.length - kk ≤ gg ∧ s23 = .int .i64 kk ∧ Aside0 (Kd.R (Kd.int .i64) 3 wr w.heap.size (fun k_ => some k_ ≠ (Value.slice Ap ps.length cp).ownBlock) s10 (movL F o ps l1 kk)) ∧ Aside0 (Kd.R k47 47 wr w.heap.size (fun k_ => some k_ ≠ s10.ownBlock) (.slice Ap ps.length cp) ps) ∧ Aside0 (Below w.heap.size w wr))
    case atStart => exact ⟨0, by omega, by omega, rfl, RO, RP, B3⟩
    case round =>
      clear RO RP B3
      obtain ⟨kk, hkk, hg, rfl, RO, RP, BB⟩ := hrel
      by_cases hlt : kk < ps.length
      · have hltz : (kk : Int) < (ps.length : Int) := by omega
        have pk : 0 ≤ (kk : Int) := by omega
        obtain ⟨adp, e1, hx0, hx1, hx2⟩ := at_T47 (Kd.R_reads' RP.out).2.2 kk pk hltz
        cases e1
        have hrd : rd_T47 ps kk = ps.getD kk z47 := by simp [rd_T47]
        rw [hrd] at hx0 hx1 hx2
        clear hrd
        simp only [Int.toNat_natCast] at hx0 hx1 hx2
        have HI := Aside0.mk (HX.out.2 kk hlt)
        have EX := Aside0.mk (show movL F o ps l1 (kk + 1) = movL F o ps l1 kk ++ [o (rd l1 (mix F ps kk))] from rfl)
        have LEN := Aside0.mk (show (movL F o ps l1 kk).length ≤ 1000 by rw [movL_len]; have := HX.out.1; omega)
        have HIX := Aside0.mk (show slices_Index_3_int_3_int.f ps (F (ps.getD kk z47)).f0 (F (ps.getD kk z47)).f1 (F (ps.getD kk z47)).f2 = some (mix F ps kk) from rfl)
        have HL2 := Aside0.mk (HLB.out (mix F ps kk) HI.out.1 HI.out.2)
        generalize mix F ps kk = i at HI EX HIX HL2
        generalize ps.getD kk z47 = p at hx0 hx1 hx2 HIX
        generalize movL F o ps l1 kk = l at RO EX LEN
        obtain ⟨i0, i1⟩ := HI.out
        · go_wp2_with fail
          refine (H1.out _ _).mono ?_
          rintro e w5 ⟨rfl, B5⟩
          have ro_ := Aside0.mk (Kd.R_below (by (with_reducible repeat (first | apply Kd.R_alloc | apply Kd.R_drewN | apply Kd.R_drew)); exact RO.out) B5)
          have rp_ := Aside0.mk (Kd.R_below (by (with_reducible repeat (first | apply Kd.R_alloc | apply Kd.R_drewN | apply Kd.R_drew)); exact RP.out) B5)
          have bb_ := Aside0.mk (below_step (by repeat (first | exact BB.out | apply below_alloc | apply pw_below_drewN | apply below_drew1)) B5)
          clear RO RP BB B5
          have RO := ro_
          have RP := rp_
          have BB := bb_
          clear ro_ rp_ bb_
          go_wp2_with fail
          refine (slices_Index_3_int_3_int.calls _ _ ps _ _ _ _ _ ?hCa ?hCb HIX.out).mono ?_
          case hCa => repeat (first | exact (Kd.R_reads' RP.out).2.2 | apply Kd.C_alloc | apply Kd.C_drewN | apply Kd.C_drew)
          case hCb => exact (Kd.R_reads' RP.out).2.1
          rintro e w6 ⟨rfl, B6⟩
          have ro_ := Aside0.mk (Kd.R_below (by (with_reducible repeat (first | apply Kd.R_alloc | apply Kd.R_drewN | apply Kd.R_drew)); exact RO.out) B6)
          have rp_ := Aside0.mk (Kd.R_below (by (with_reducible repeat (first | apply Kd.R_alloc | apply Kd.R_drewN | apply Kd.R_drew)); exact RP.out) B6)
          have bb_ := Aside0.mk (below_step (by repeat (first | exact BB.out | apply below_alloc | apply pw_below_drewN | apply below_drew1)) B6)
          clear RO RP BB B6
          have RO := ro_
          have RP := rp_
          have BB := bb_
          clear ro_ rp_ bb_
          obtain ⟨adl, e1, hxl⟩ := Kd.at_int (Kd.C_below HL.out BB.out) i i0 i1
          cases e1
          have HL3 := HL2
          clear HL2
          generalize rd l1 i = x at hxl EX HL3
          go_wp2_with fail
          refine (H2.out x _ HL3.out.1 HL3.out.2).mono ?_
          rintro e w7 ⟨rfl, B7⟩
          have ro_ := Aside0.mk (Kd.R_below (by (with_reducible repeat (first | apply Kd.R_alloc | apply Kd.R_drewN | apply Kd.R_drew)); exact RO.out) B7)
          have rp_ := Aside0.mk (Kd.R_below (by (with_reducible repeat (first | apply Kd.R_alloc | apply Kd.R_drewN | apply Kd.R_drew)); exact RP.out) B7)
          have bb_ := Aside0.mk (below_step (by repeat (first | exact BB.out | apply below_alloc | apply pw_below_drewN | apply below_drew1)) B7)
          clear RO RP BB B7
          have RO := ro_
          have RP := rp_
          have BB := bb_
          clear ro_ rp_ bb_
          go_wp2_with (at_builtin; refine Kd.R_append (Kd.int .i64) (w0 := w) w.heap.size rfl (.tmp 27) (.tmp 38) 22 3 (.int .i64 0) 8 rfl Try.underlying22 infoI rfl (by decide) (by omega) u10 l (o x) [.int .i64 (o x)] (fun k_ => some k_ ≠ (Value.slice (some adp) ps.length cp).ownBlock) (fun _ => False) rfl rfl ?aP (fun _ hk => hk.elim) ?aF ?aO ?aB ?aS ?aL ?_; (case aP => exact rfl); (case aB => exact (by repeat (first | exact BB.out | apply below_alloc | apply pw_below_drewN | apply below_drew1))); (case aF => exact (fun k_ hk => Kd.fresh' (Kd.R_lt (by (with_reducible repeat (first | apply Kd.R_alloc | apply Kd.R_drewN | apply Kd.R_drew)); exact RP.out)) k_ hk)); (case aO => exact (by (with_reducible repeat (first | apply Kd.R_alloc | apply Kd.R_drewN | apply Kd.R_drew)); exact RO.out)); (case aS => exact (below_size (by repeat (first | exact BB.out | apply below_alloc | apply pw_below_drewN | apply below_drew1)))); (case aL => have := LEN.out; omega); intro v220 w11 ho hb hg hat; have rp_ := Aside0.mk (Kd.R_after (ok := (fun _ => True)) (by (with_reducible repeat (first | apply Kd.R_alloc | apply Kd.R_drewN | apply Kd.R_drew)); exact Kd.R_mono RP.out (fun _ hk => ⟨trivial, hk⟩)) hg hat); have HO := Aside0.mk ho; have HBB := Aside0.mk hb; clear ho hb hg hat)
          go_outline
          go_roundg (ps.length - (kk + 1))
          case measure => omega
          case rel =>
            refine ⟨kk + 1, by omega, by omega, by go_num, ⟨?_⟩, ⟨Kd.R_mono rp_.out (fun _ hk => hk.2)⟩, HBB⟩
            rw [EX.out]
            exact HO.out
      · have hltz : ¬ (kk : Int) < (ps.length : Int) := by omega
        have hke : kk = ps.length := by omega
        subst hke
        rw [HR.out] at RO
        go_wp2
        go_ret2
        exact ⟨_, rfl, Kd.R_mono RO.out (fun _ _ => trivial), BB.out⟩

def impl_TurnLabels.f (k : Nat) (a0 : Int) (l1 : List Int) : Option (List Int × Bool) := movF (fun p => ⟨p.f1, p.f2, p.f0⟩) (fun x => Int.tmod (wrap64 (x + 1)) 3) k a0 l1
theorem impl_TurnLabels.mono : ∀ a0 a1 k, LeO (impl_TurnLabels.f k a0 a1) (impl_TurnLabels.f (k + 1) a0 a1) := movF.mono _ _
def impl_MirrorLabels.f (k : Nat) (a0 : Int) (l1 : List Int) : Option (List Int × Bool) := movF (fun p => ⟨p.f1, p.f0, p.f2⟩) (fun x => nearP 1 0 2 x.toNat) k a0 l1
theorem impl_MirrorLabels.mono : ∀ a0 a1 k, LeO (impl_MirrorLabels.f k a0 a1) (impl_MirrorLabels.f (k + 1) a0 a1) := movF.mono _ _

set_option maxHeartbeats 4000000 in
set_option maxRecDepth 100000 in
theorem impl_TurnLabels.calls (k : Nat) (a0 : Int) (A1 : Option Addr) (c1 : Nat) (l1 : List Int) (r1 : List Int) (r2 : Bool) (w : World) (hr1 : Kd.C (Kd.int .i64) w A1 l1.length l1) (hc1 : l1.length ≤ c1) (h : impl_TurnLabels.f k a0 l1 = some (r1, r2)) :
    Calls Try.prog 38 #[.int .i64 a0, .slice A1 l1.length c1] w fun e w' => ∃ v0_ : Value, e = .returned (.tuple #[v0_, .bool r2]) ∧ Kd.R (Kd.int .i64) 3 w' w.heap.size (fun _ => True) v0_ r1 ∧ Below w.heap.size w w' := by
  have hm := Kd.C_max hr1
  go_enter Try.func38, Try.ntmps38
  go_wp2_with fail
  refine (moved_any 72 73 (enters_of Try.func72 (by kernel_rfl) rfl) (enters_of Try.func73 (by kernel_rfl) rfl) (fun p => ⟨p.f1, p.f2, p.f0⟩) (fun x => Int.tmod (wrap64 (x + 1)) 3) ?_ ?_ k a0 A1 c1 l1 r1 r2 w hr1 hc1 h).mono ?_
  · intro p W
    exact impl_TurnLabels_1.calls _ _ _ _ _ _ W rfl
  · intro x W _ _
    refine (impl_TurnLabels_2.calls x _ W rfl).mono ?_
    rintro e w' ⟨rfl, ⟨q, rfl⟩⟩
    exact ⟨rfl, pw_below_drewN (Below.refl _ _) _⟩
  rintro e w1 ⟨v0, rfl, R, B⟩
  go_wp2
  go_ret2
  exact ⟨_, rfl, R, B⟩

set_option maxHeartbeats 4000000 in
set_option maxRecDepth 100000 in
theorem impl_MirrorLabels_2.calls (x : Int) (h0 : 0 ≤ x) (h2 : x ≤ 2) (w : World) :
    Calls Try.prog 75 #[.int .i64 x] w fun e w' => e = .returned (.int .i64 (nearP 1 0 2 x.toNat)) ∧ Below w.heap.size w w' := by
  obtain ⟨m, rfl⟩ := Int.eq_ofNat_of_zero_le h0
  have hx := ix3 1 0 2 m (by omega)
  go_enter Try.func75, Try.ntmps75
  go_wp2_with fail
  go_ret
  exact ⟨by simp, Below.refl _ _⟩

set_option maxHeartbeats 4000000 in
set_option maxRecDepth 100000 in
theorem impl_MirrorLabels.calls (k : Nat) (a0 : Int) (A1 : Option Addr) (c1 : Nat) (l1 : List Int) (r1 : List Int) (r2 : Bool) (w : World) (hr1 : Kd.C (Kd.int .i64) w A1 l1.length l1) (hc1 : l1.length ≤ c1) (h : impl_MirrorLabels.f k a0 l1 = some (r1, r2)) :
    Calls Try.prog 40 #[.int .i64 a0, .slice A1 l1.length c1] w fun e w' => ∃ v0_ : Value, e = .returned (.tuple #[v0_, .bool r2]) ∧ Kd.R (Kd.int .i64) 3 w' w.heap.size (fun _ => True) v0_ r1 ∧ Below w.heap.size w w' := by
  have hm := Kd.C_max hr1
  go_enter Try.func40, Try.ntmps40
  go_wp2_with fail
  refine (moved_any 74 75 (enters_of Try.func74 (by kernel_rfl) rfl) (enters_of Try.func75 (by kernel_rfl) rfl) (fun p => ⟨p.f1, p.f0, p.f2⟩) (fun x => nearP 1 0 2 x.toNat) ?_ ?_ k a0 A1 c1 l1 r1 r2 w hr1 hc1 h).mono ?_
  · intro p W
    exact impl_MirrorLabels_1.calls _ _ _ _ _ _ W rfl
  · intro x W h0 h2
    exact impl_MirrorLabels_2.calls x h0 h2 W
  rintro e w1 ⟨v0, rfl, R, B⟩
  go_wp2
  go_ret2
  exact ⟨_, rfl, R, B⟩
end Go.Proofs.Ytjcnmcbapjkmhaa.Given
