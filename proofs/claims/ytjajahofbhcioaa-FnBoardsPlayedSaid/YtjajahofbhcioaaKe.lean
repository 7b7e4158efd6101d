/- impl.gameOf, impl.WinsMoving and impl.FirstWinningMove by hand (a struct with a map); for all slices that read as lists. -/
import Derived.Test.YtjajahofbhcioaaKc
import Derived.Test.YtjajahofbhcioaaGn
import Derived.Test.YtjajahofbhcioaaQx2
namespace Go.Proofs.Ytjajahofbhcioaa.Given
open Go.Proofs.Ytjajahofbhcioaa.Q Go.RowKit Go.Proofs.YtjajahofbhcioaaW.PrintWords Go.Proofs.YtjajahofbhcioaaW.PrintLast Go.Proofs.YtjajahofbhcioaaW.PrintMore
set_option linter.unusedVariables false
set_option linter.unusedSimpArgs false

def impl_free.l0 : Nat → Int → List Int → Int → Option Int
  | 0, _, _, _ => none
  | k + 1, x, l, i => if i < (l.length : Int) then (if 0 ≤ i then (if rd l i = 0 then impl_free.l0 k (wrap64 (x + 1)) l (wrap64 (i + 1)) else impl_free.l0 k x l (wrap64 (i + 1))) else none) else some x
theorem impl_free.mono : ∀ (k : Nat) (x : Int) (l : List Int) (i : Int), LeO (impl_free.l0 k x l i) (impl_free.l0 (k + 1) x l i)
  | 0, _, _, _ => fun r h => by simp [impl_free.l0] at h
  | k + 1, x, l, i => by
    rw [impl_free.l0, impl_free.l0]
    split
    · split
      · split
        · exact impl_free.mono k _ _ _
        · exact impl_free.mono k _ _ _
      · exact LeO.refl _
    · exact LeO.refl _
/-- Whether there is a game, and whether few places are nobody's. -/
def impl_gameOf.f (k : Nat) (a c : Int) (l : List Int) (p : Int) : Option (Option Bool) := (impl_isBoard.f a c l).bind fun b => if b = true then (impl_isPlayer.f p).bind fun q => if q = true then (impl_free.l0 k 0 l 0).bind fun n => some (some (decide (n ≤ 9))) else some none else some none
theorem impl_gameOf.mono (k : Nat) (a c : Int) (l : List Int) (p : Int) : LeO (impl_gameOf.f k a c l p) (impl_gameOf.f (k + 1) a c l p) := by
  unfold impl_gameOf.f
  refine LeO.bind (LeO.refl _) (fun b => ?_)
  split
  · refine LeO.bind (LeO.refl _) (fun q => ?_)
    split
    · exact LeO.bind (impl_free.mono _ _ _ _) (fun _ => LeO.refl _)
    · exact LeO.refl _
  · exact LeO.refl _
def GameAt (w w' : World) (a c : Int) (e : Ending) : Option Bool → Prop
  | none => e = .returned (.tuple #[.agg #[.int .i64 0, .int .i64 0, .map none], .bool false]) ∧ Below w.heap.size w w'
  | some ok => ∃ M, e = .returned (.tuple #[.agg #[.int .i64 a, .int .i64 c, .map (some M)], .bool ok]) ∧ KM w' M (.map []) ∧ w.heap.size ≤ M ∧ Below w.heap.size w w'

set_option maxHeartbeats 4000000 in
set_option maxRecDepth 100000 in
theorem impl_gameOf.calls (k : Nat) (a c : Int) (A : Option Addr) (c2 : Nat) (l : List Int) (p : Int) (g : Option Bool) (w : World) (hr : Kd.C (Kd.int .i64) w A l.length l) (hc : l.length ≤ c2) (h : impl_gameOf.f k a c l p = some g) :
    Calls Try.prog 37 #[.int .i64 a, .int .i64 c, .slice A l.length c2, .int .i64 p] w fun e w' => GameAt w w' a c e g := by
  obtain ⟨b, hb, h⟩ := Option.bind_eq_some_iff.mp h
  have HR := Aside0.mk hr
  have HC := Aside0.mk hc
  have HB := Aside0.mk hb
  have hu := Try.underlying53
  have hmm := @run_makeMap Try.prog
  clear hr hc hb
  cases b with
  | false =>
    rw [if_neg (by decide)] at h
    injection h with h
    subst h
    go_enter Try.func37, Try.ntmps37
    go_wp2_with fail
    refine (impl_isBoard.calls a c _ _ l false _ (by repeat (first | exact HR.out | apply Kd.C_drewN | apply Kd.C_alloc)) HC.out HB.out).mono ?_
    rintro e w2 ⟨rfl, ⟨q, rfl⟩⟩
    go_wp2_with fail
    refine bodyPost_ret (results_ct rfl _ _ w.heap.size 53 #[.int .i64 0, .int .i64 0, .map none] (0, 0) _ rfl (by refine blk_put (cs := #[.int .i64 0, .int .i64 0, .map none]) ?_ 2 _ rfl; refine blk_put (cs := #[.int .i64 0, .int .i64 0, .map none]) ?_ 1 _ rfl; refine blk_put (cs := #[.int .i64 0, .int .i64 0, .map none]) ?_ 0 _ rfl; first | exact blk_drewN (blk_new _ _) _ | exact blk_drewN (blk_drewN (blk_new _ _) _) _) Try.underlying53 rfl (by kernel_rfl)) rfl ?_
    exact ⟨rfl, below_set (below_set (below_set (by first | exact pw_below_drewN (below_alloc (Below.refl _ _) _) _ | exact pw_below_drewN (pw_below_drewN (below_alloc (Below.refl _ _) _) _) _) (Nat.le_refl _)) (Nat.le_refl _)) (Nat.le_refl _)⟩
  | true =>
    rw [if_pos rfl] at h
    obtain ⟨q, hq, h⟩ := Option.bind_eq_some_iff.mp h
    have HQ := Aside0.mk hq
    clear hq
    cases q with
    | false =>
      rw [if_neg (by decide)] at h
      injection h with h
      subst h
      go_enter Try.func37, Try.ntmps37
      go_wp2_with fail
      refine (impl_isBoard.calls a c _ _ l true _ (by repeat (first | exact HR.out | apply Kd.C_drewN | apply Kd.C_alloc)) HC.out HB.out).mono ?_
      rintro e w2 ⟨rfl, ⟨q, rfl⟩⟩
      go_wp2_with fail
      refine (impl_isPlayer.calls p false _ HQ.out).mono ?_
      rintro e w3 ⟨rfl, ⟨q2, rfl⟩⟩
      go_wp2_with fail
      refine bodyPost_ret (results_ct rfl _ _ w.heap.size 53 #[.int .i64 0, .int .i64 0, .map none] (0, 0) _ rfl (by refine blk_put (cs := #[.int .i64 0, .int .i64 0, .map none]) ?_ 2 _ rfl; refine blk_put (cs := #[.int .i64 0, .int .i64 0, .map none]) ?_ 1 _ rfl; refine blk_put (cs := #[.int .i64 0, .int .i64 0, .map none]) ?_ 0 _ rfl; first | exact blk_drewN (blk_new _ _) _ | exact blk_drewN (blk_drewN (blk_new _ _) _) _) Try.underlying53 rfl (by kernel_rfl)) rfl ?_
      exact ⟨rfl, below_set (below_set (below_set (by first | exact pw_below_drewN (below_alloc (Below.refl _ _) _) _ | exact pw_below_drewN (pw_below_drewN (below_alloc (Below.refl _ _) _) _) _) (Nat.le_refl _)) (Nat.le_refl _)) (Nat.le_refl _)⟩
    | true =>
      rw [if_pos rfl] at h
      obtain ⟨n, hn, h⟩ := Option.bind_eq_some_iff.mp h
      injection h with h
      subst h
      have H' := Aside0.mk hn
      clear hn
      obtain ⟨w1, hw1⟩ : ∃ w1, w1 = (w.alloc (.cells #[.int .i64 0, .int .i64 0, .map none] 53)) := ⟨_, rfl⟩
      have B1 := Aside0.mk (show Below w.heap.size w w1 from hw1 ▸ below_alloc (Below.refl w.heap.size w) _)
      have HBK := Aside0.mk (show w1.heap[w.heap.size]? = some (.cells #[.int .i64 0, .int .i64 0, .map none] 53 (0, 0)) by rw [hw1]; exact heap_alloc_new w _)
      have HW1 := Aside0.mk hw1
      clear hw1
      go_enter Try.func37, Try.ntmps37
      go_wp2_with fail
      rw [← HW1.out]
      refine (impl_isBoard.calls a c _ _ l true _ (by repeat (first | exact Kd.C_below HR.out B1.out | apply Kd.C_drewN)) HC.out HB.out).mono ?_
      rintro e w2 ⟨rfl, ⟨q, rfl⟩⟩
      go_wp2_with fail
      refine (impl_isPlayer.calls p true _ HQ.out).mono ?_
      rintro e w3 ⟨rfl, ⟨q2, rfl⟩⟩
      go_wp2
      go_loopg [10, 26] k (fun kq s10 s26 wr => ∃ (x i : Int), s10 = .int .i64 x ∧ s26 = .int .i64 i ∧ Aside0 (impl_free.l0 kq x l i = some n) ∧ Aside0 (kq ≤ k) ∧ Aside0 (Below w1.heap.size w1 wr))
      case atStart => exact ⟨0, 0, rfl, rfl, H', ⟨Nat.le_refl _⟩, ⟨by repeat (first | exact Below.refl _ _ | apply pw_below_drewN)⟩⟩
      case round =>
        clear H'
        obtain ⟨x, i, rfl, rfl, HA, HK, BW⟩ := hrel
        cases gk with
        | zero => exact absurd HA.out (by simp [impl_free.l0])
        | succ k1 =>
          have H := HA.out
          clear HA
          rw [impl_free.l0] at H
          by_cases c1 : i < (l.length : Int)
          · rw [if_pos c1] at H
            by_cases c20 : 0 ≤ i
            · rw [if_pos c20] at H
              obtain ⟨ad, e1, hx⟩ := Kd.at_int (Kd.C_below HR.out (below_step B1.out BW.out)) i c20 c1
              cases e1
              by_cases c3 : rd l i = 0
              · as_aux_lemma =>
                rw [if_pos c3] at H
                have c3b : (rd l i == 0) = true := beq_iff_eq.2 c3
                have H' := Aside0.mk H
                clear H c3
                go_wp2
                go_roundg k1
                case measure => have := HK.out; omega
                case rel => exact ⟨wrap64 (x + 1), wrap64 (i + 1), rfl, rfl, H', ⟨by have := HK.out; omega⟩, ⟨by repeat (first | exact BW.out | apply pw_below_drewN)⟩⟩
              · as_aux_lemma =>
                rw [if_neg c3] at H
                have c3b : (rd l i == 0) = false := beq_eq_false_iff_ne.2 c3
                have H' := Aside0.mk H
                clear H
                go_wp2
                go_roundg k1
                case measure => have := HK.out; omega
                case rel => exact ⟨x, wrap64 (i + 1), rfl, rfl, H', ⟨by have := HK.out; omega⟩, ⟨by repeat (first | exact BW.out | apply pw_below_drewN)⟩⟩
            · rw [if_neg c20] at H
              exact absurd H (by simp)
          · rw [if_neg c1] at H
            injection H with H
            subst H
            have hb2 := blk_alloc (blk_below HBK.out BW.out) (.map #[] 0)
            have hx0 : (wr.alloc (.map #[] 0)).cell? ⟨w.heap.size, 0, none⟩ = some (.int .i64 0) := by rw [blk_cell hb2]; rfl
            have hx1 : (wr.alloc (.map #[] 0)).cell? ⟨w.heap.size, 1, none⟩ = some (.int .i64 0) := by rw [blk_cell hb2]; rfl
            have hx2 : (wr.alloc (.map #[] 0)).cell? ⟨w.heap.size, 2, none⟩ = some (.map none) := by rw [blk_cell hb2]; rfl
            have hf0 : (wr.alloc (.map #[] 0)).frozen? ⟨w.heap.size, 0, none⟩ = false := blk_frozen hb2 0
            have hf1 : (wr.alloc (.map #[] 0)).frozen? ⟨w.heap.size, 1, none⟩ = false := blk_frozen hb2 1
            have hf2 : (wr.alloc (.map #[] 0)).frozen? ⟨w.heap.size, 2, none⟩ = false := blk_frozen hb2 2
            have HB2 := Aside0.mk hb2
            clear hb2
            have HSZ := Aside0.mk (show w.heap.size < wr.heap.size from blk_lt (blk_below HBK.out BW.out))
            go_wp2
            refine bodyPost_ret (results_ct rfl _ _ w.heap.size 53 #[.int .i64 a, .int .i64 c, .map (some wr.heap.size)] (0, 0) _ rfl (by refine blk_put (cs := #[.int .i64 a, .int .i64 c, .map none]) ?_ 2 _ rfl; refine blk_put (cs := #[.int .i64 a, .int .i64 0, .map none]) ?_ 1 _ rfl; refine blk_put (cs := #[.int .i64 0, .int .i64 0, .map none]) ?_ 0 _ rfl; exact HB2.out) Try.underlying53 rfl (by kernel_rfl)) rfl ?_
            have hne : wr.heap.size ≠ w.heap.size := Nat.ne_of_gt HSZ.out
            exact ⟨wr.heap.size, rfl, (((World.ownsMap_made wr Try.prog 9 (plainElem Try.prog 4)).setCell hne _).setCell hne _).setCell hne _, Nat.le_of_lt HSZ.out, below_set (below_set (below_set (below_alloc (below_step B1.out BW.out) _) (Nat.le_refl _)) (Nat.le_refl _)) (Nat.le_refl _)⟩

def impl_WinsMoving.f (k : Nat) (a c : Int) (l : List Int) (p : Int) : Option (Bool × Bool) := (impl_gameOf.f k a c l p).bind fun g => if g = some true then (impl_wins.f k a c (.map []) l p).bind fun v => some (v.1, true) else some (false, false)
theorem impl_WinsMoving.mono : ∀ a0 a1 a2 a3 k, LeO (impl_WinsMoving.f k a0 a1 a2 a3) (impl_WinsMoving.f (k + 1) a0 a1 a2 a3) := by
  intro a c l p k
  unfold impl_WinsMoving.f
  refine LeO.bind (impl_gameOf.mono _ _ _ _ _) (fun g => ?_)
  split
  · exact LeO.bind ((impl_wins.mono_l k).1 _ _ _ _ _) (fun _ => LeO.refl _)
  · exact LeO.refl _
def impl_FirstWinningMove.f (k : Nat) (a c : Int) (l : List Int) (p : Int) : Option (Int × Bool) := (impl_gameOf.f k a c l p).bind fun g => if g = some true then (impl_winner.f k a c l).bind fun o => if o = 0 then (impl_move.l0 k a c (.map []) l p 0).bind fun v => some (max v.1 0, decide (v.1 ≥ 0)) else some (0, false) else some (0, false)
theorem impl_FirstWinningMove.mono : ∀ a0 a1 a2 a3 k, LeO (impl_FirstWinningMove.f k a0 a1 a2 a3) (impl_FirstWinningMove.f (k + 1) a0 a1 a2 a3) := by
  intro a c l p k
  unfold impl_FirstWinningMove.f
  refine LeO.bind (impl_gameOf.mono _ _ _ _ _) (fun g => ?_)
  split
  · refine LeO.bind (impl_winner.mono _ _ _ _) (fun o => ?_)
    split
    · exact LeO.bind ((impl_wins.mono_l k).2 _ _ _ _ _ _) (fun _ => LeO.refl _)
    · exact LeO.refl _
  · exact LeO.refl _

set_option maxHeartbeats 4000000 in
set_option maxRecDepth 100000 in
theorem impl_WinsMoving.calls (k : Nat) (a0 : Int) (a1 : Int) (A2 : Option Addr) (c2 : Nat) (l2 : List Int) (a3 : Int) (r1 : Bool) (r2 : Bool) (w : World) (hr2 : Kd.C (Kd.int .i64) w A2 l2.length l2) (hc2 : l2.length ≤ c2) (h : impl_WinsMoving.f k a0 a1 l2 a3 = some (r1, r2)) :
    Calls Try.prog 13 #[.int .i64 a0, .int .i64 a1, .slice A2 l2.length c2, .int .i64 a3] w fun e w' => e = .returned (.tuple #[.bool r1, .bool r2]) ∧ Below w.heap.size w w' := by
  obtain ⟨g, hg, h⟩ := Option.bind_eq_some_iff.mp h
  have HR := Aside0.mk hr2
  have HC := Aside0.mk hc2
  have HG := Aside0.mk hg
  have hu := Try.underlying53
  clear hr2 hc2 hg
  go_enter Try.func13, Try.ntmps13
  go_wp2_with fail
  refine (impl_gameOf.calls k a0 a1 _ _ l2 a3 g _ (by repeat (first | exact HR.out | apply Kd.C_drewN)) HC.out HG.out).mono ?_
  rintro e w2 hG
  match g with
  | none =>
    obtain ⟨rfl, B2⟩ := hG
    have B2 := Aside0.mk (below_step (show Below w.heap.size w _ by repeat (first | exact Below.refl _ _ | apply pw_below_drewN)) B2)
    rw [if_neg (by simp)] at h
    injection h with h
    injection h with h1 h2
    subst h1 h2
    go_wp2
    go_ret2
    exact ⟨rfl, by first | exact below_alloc B2.out _ | exact pw_below_drewN (below_alloc B2.out _) _⟩
  | some false =>
    obtain ⟨M, rfl, HM, hge, B2⟩ := hG
    have B2 := Aside0.mk (below_step (show Below w.heap.size w _ by repeat (first | exact Below.refl _ _ | apply pw_below_drewN)) B2)
    rw [if_neg (by simp)] at h
    injection h with h
    injection h with h1 h2
    subst h1 h2
    clear HM hge
    go_wp2
    go_ret2
    exact ⟨rfl, by first | exact below_alloc B2.out _ | exact pw_below_drewN (below_alloc B2.out _) _⟩
  | some true =>
    obtain ⟨M, rfl, HM, hge, B2⟩ := hG
    have B2 := Aside0.mk (below_step (show Below w.heap.size w _ by repeat (first | exact Below.refl _ _ | apply pw_below_drewN)) B2)
    rw [if_pos rfl] at h
    obtain ⟨⟨v, Dv⟩, hv, h⟩ := Option.bind_eq_some_iff.mp h
    injection h with h
    injection h with h1 h2
    subst h1 h2
    have HV := Aside0.mk hv
    have HM := Aside0.mk (km_below HM (below_alloc (Below.refl _ _) (.cells #[.int .i64 a0, .int .i64 a1, .map (some M)] 53)))
    have HGE := Aside0.mk hge
    clear hv hge
    go_wp2_with fail
    refine ((impl_game k).1 a0 a1 _ _ _ l2 a3 v Dv M _ (Kd.C_below HR.out (below_alloc B2.out _)) HC.out HM.out HV.out).mono ?_
    rintro e w4 ⟨rfl, HM4, G4⟩
    have B4 := Aside0.mk (Below.grown (below_alloc B2.out _) G4 (below_alloc B2.out _).size (fun k e => by have := HGE.out; injection e with e; omega))
    clear HM4 G4
    go_wp2
    go_ret2
    exact ⟨rfl, by first | exact B4.out | exact pw_below_drewN B4.out _⟩

set_option maxHeartbeats 4000000 in
set_option maxRecDepth 100000 in
theorem impl_FirstWinningMove.calls (k : Nat) (a0 : Int) (a1 : Int) (A2 : Option Addr) (c2 : Nat) (l2 : List Int) (a3 : Int) (r1 : Int) (r2 : Bool) (w : World) (hr2 : Kd.C (Kd.int .i64) w A2 l2.length l2) (hc2 : l2.length ≤ c2) (h : impl_FirstWinningMove.f k a0 a1 l2 a3 = some (r1, r2)) :
    Calls Try.prog 15 #[.int .i64 a0, .int .i64 a1, .slice A2 l2.length c2, .int .i64 a3] w fun e w' => e = .returned (.tuple #[.int .i64 r1, .bool r2]) ∧ Below w.heap.size w w' := by
  obtain ⟨g, hg, h⟩ := Option.bind_eq_some_iff.mp h
  have HR := Aside0.mk hr2
  have HC := Aside0.mk hc2
  have HG := Aside0.mk hg
  have hu := Try.underlying53
  clear hr2 hc2 hg
  go_enter Try.func15, Try.ntmps15
  go_wp2_with fail
  refine (impl_gameOf.calls k a0 a1 _ _ l2 a3 g _ (by repeat (first | exact HR.out | apply Kd.C_drewN)) HC.out HG.out).mono ?_
  rintro e w2 hG
  match g with
  | none =>
    obtain ⟨rfl, B2⟩ := hG
    have B2 := Aside0.mk (below_step (show Below w.heap.size w _ by repeat (first | exact Below.refl _ _ | apply pw_below_drewN)) B2)
    rw [if_neg (by simp)] at h
    injection h with h
    injection h with h1 h2
    subst h1 h2
    go_wp2
    go_ret2
    exact ⟨rfl, by first | exact below_alloc B2.out _ | exact pw_below_drewN (below_alloc B2.out _) _⟩
  | some false =>
    obtain ⟨M, rfl, HM, hge, B2⟩ := hG
    have B2 := Aside0.mk (below_step (show Below w.heap.size w _ by repeat (first | exact Below.refl _ _ | apply pw_below_drewN)) B2)
    rw [if_neg (by simp)] at h
    injection h with h
    injection h with h1 h2
    subst h1 h2
    clear HM hge
    go_wp2
    go_ret2
    exact ⟨rfl, by first | exact below_alloc B2.out _ | exact pw_below_drewN (below_alloc B2.out _) _⟩
  | some true =>
    obtain ⟨M, rfl, HM, hge, B2⟩ := hG
    have B2 := Aside0.mk (below_step (show Below w.heap.size w _ by repeat (first | exact Below.refl _ _ | apply pw_below_drewN)) B2)
    rw [if_pos rfl] at h
    obtain ⟨o, ho, h⟩ := Option.bind_eq_some_iff.mp h
    have HO := Aside0.mk ho
    have HM := Aside0.mk HM
    have HGE := Aside0.mk hge
    clear ho hge
    go_wp2_with fail
    refine (impl_winner.calls k a0 a1 _ _ l2 o _ (by repeat (first | exact Kd.C_below HR.out (below_alloc B2.out _) | apply Kd.C_drewN)) HC.out HO.out).mono ?_
    rintro e w3 ⟨rfl, X3⟩
    have B3 := Aside0.mk (below_step (below_alloc B2.out _) X3)
    have X := Aside0.mk X3
    by_cases ho : o = 0
    · rw [if_pos ho] at h
      subst ho
      obtain ⟨⟨v, Dv⟩, hv, h⟩ := Option.bind_eq_some_iff.mp h
      injection h with h
      injection h with h1 h2
      subst h1 h2
      have HV := Aside0.mk hv
      have hbk := blk_below (blk_new w2 (.cells #[.int .i64 a0, .int .i64 a1, .map (some M)] 53)) X.out
      have hx0 : w3.cell? ⟨w2.heap.size, 0, none⟩ = some (.int .i64 a0) := by rw [blk_cell hbk]; rfl
      have hx1 : w3.cell? ⟨w2.heap.size, 1, none⟩ = some (.int .i64 a1) := by rw [blk_cell hbk]; rfl
      have hx2 : w3.cell? ⟨w2.heap.size, 2, none⟩ = some (.map (some M)) := by rw [blk_cell hbk]; rfl
      have HM3 := Aside0.mk (km_below (km_below HM.out (below_alloc (Below.refl _ _) (.cells #[.int .i64 a0, .int .i64 a1, .map (some M)] 53))) X.out)
      clear hv hbk X3 HO
      go_wp2_with fail
      refine ((impl_game k).2 a0 a1 _ _ _ l2 a3 v Dv M _ (by repeat (first | exact Kd.C_below HR.out B3.out | apply Kd.C_drewN)) HC.out (by first | exact HM3.out | exact km_drewN HM3.out _) HV.out).mono ?_
      rintro e w4 ⟨rfl, HM4, G4⟩
      have B4 := Aside0.mk (Below.grown (show Below w.heap.size w _ by first | exact B3.out | exact pw_below_drewN B3.out _) G4 (by first | exact B3.out.size | exact (pw_below_drewN B3.out _).size) (fun k e => by have := HGE.out; injection e with e; omega))
      clear HM4 G4 hx0 hx1 hx2
      go_wp2
      go_ret2
      exact ⟨by first | rfl | simp, by first | exact B4.out | exact pw_below_drewN B4.out _⟩
    · rw [if_neg ho] at h
      have ho1 : (o == 0) = false := beq_eq_false_iff_ne.2 ho
      have ho2 : (o != 0) = true := bne_iff_ne.2 ho
      injection h with h
      injection h with h1 h2
      subst h1 h2
      clear X3 HO
      go_wp2
      go_ret2
      exact ⟨rfl, by first | exact B3.out | exact pw_below_drewN B3.out _⟩
end Go.Proofs.Ytjajahofbhcioaa.Given
