/- spec.hxWins and spec.hxMove by hand (they call each other); for all slices that read as lists. -/
import Derived.Test.YtjajahofbhcioaaQx4
import Derived.Test.YtjajahofbhcioaaQx5
import Derived.Lib.Walk
import Derived.Outline
namespace Go.Proofs.Ytjajahofbhcioaa.Given
open Go.Proofs.Ytjajahofbhcioaa.Q Go.RowKit Go.Proofs.YtjajahofbhcioaaW.PrintWords Go.Proofs.YtjajahofbhcioaaW.PrintLast Go.Proofs.YtjajahofbhcioaaW.PrintMore
set_option linter.unusedVariables false
set_option linter.unusedSimpArgs false

mutual
def spec_hxWins.f : Nat → Int → Int → List Int → Int → Option Bool
  | 0, _, _, _, _ => none
  | k + 1, a, c, l, p => (spec_hxNeed.f k a c l (wrap64 (3 - p))).bind fun t => if t = 0 then some false else (spec_hxNeed.f k a c l p).bind fun u => if u = 0 then some true else (spec_hxMove.l0 k a c l p 0).bind fun v => some (decide (v ≥ 0))
def spec_hxMove.l0 : Nat → Int → Int → List Int → Int → Int → Option Int
  | 0, _, _, _, _, _ => none
  | k + 1, a, c, l, p, i => if i < (l.length : Int) then (if 0 ≤ i ∧ l.length < 1000 then (if rd l i > 0 then spec_hxMove.l0 k a c l p (wrap64 (i + 1)) else (spec_hxWins.f k a c (l.set i.toNat p) (wrap64 (3 - p))).bind fun t => if t = true then spec_hxMove.l0 k a c l p (wrap64 (i + 1)) else some i) else none) else some (-1)
end
def spec_hxMove.f (k : Nat) (a c : Int) (l : List Int) (p : Int) : Option Int := spec_hxMove.l0 k a c l p 0
theorem spec_hxWins.mono_l : ∀ k, (∀ a c l p, LeO (spec_hxWins.f k a c l p) (spec_hxWins.f (k + 1) a c l p)) ∧ (∀ a c l p i, LeO (spec_hxMove.l0 k a c l p i) (spec_hxMove.l0 (k + 1) a c l p i))
  | 0 => ⟨fun _ _ _ _ r h => by simp [spec_hxWins.f] at h, fun _ _ _ _ _ r h => by simp [spec_hxMove.l0] at h⟩
  | k + 1 => by
    obtain ⟨i0, i1⟩ := spec_hxWins.mono_l k
    refine ⟨fun a c l p => ?_, fun a c l p i => ?_⟩
    · rw [spec_hxWins.f, spec_hxWins.f]
      refine LeO.bind (spec_hxNeed.mono _ _ _ _ k) (fun t => ?_)
      split
      · exact LeO.refl _
      · refine LeO.bind (spec_hxNeed.mono _ _ _ _ k) (fun u => ?_)
        split
        · exact LeO.refl _
        · exact LeO.bind (i1 _ _ _ _ _) (fun _ => LeO.refl _)
    · rw [spec_hxMove.l0, spec_hxMove.l0]
      split
      · split
        · split
          · exact i1 _ _ _ _ _
          · refine LeO.bind (i0 _ _ _ _) (fun t => ?_)
            split
            · exact i1 _ _ _ _ _
            · exact LeO.refl _
        · exact LeO.refl _
      · exact LeO.refl _
theorem spec_hxWins.mono : ∀ a0 a1 a2 a3 k, LeO (spec_hxWins.f k a0 a1 a2 a3) (spec_hxWins.f (k + 1) a0 a1 a2 a3) := fun a c l p k => (spec_hxWins.mono_l k).1 a c l p
theorem spec_hxMove.mono : ∀ a0 a1 a2 a3 k, LeO (spec_hxMove.f k a0 a1 a2 a3) (spec_hxMove.f (k + 1) a0 a1 a2 a3) := fun a c l p k => (spec_hxWins.mono_l k).2 a c l p 0

abbrev SWins (k : Nat) : Prop := ∀ (a c : Int) (A : Option Addr) (c2 : Nat) (l : List Int) (p : Int) (r : Bool) (w : World), Kd.C (Kd.int .i64) w A l.length l → l.length ≤ c2 → spec_hxWins.f k a c l p = some r →
  Calls Try.prog 40 #[.int .i64 a, .int .i64 c, .slice A l.length c2, .int .i64 p] w fun e w' => e = .returned (.bool r) ∧ Below w.heap.size w w'
abbrev SMove (k : Nat) : Prop := ∀ (a c : Int) (A : Option Addr) (c2 : Nat) (l : List Int) (p : Int) (r : Int) (w : World), Kd.C (Kd.int .i64) w A l.length l → l.length ≤ c2 → spec_hxMove.f k a c l p = some r →
  Calls Try.prog 44 #[.int .i64 a, .int .i64 c, .slice A l.length c2, .int .i64 p] w fun e w' => e = .returned (.int .i64 r) ∧ Below w.heap.size w w'
theorem own_f {l : List Int} (h : l.length < 1000) : spec_l1Own.f l = some l := by
  unfold spec_l1Own.f
  simp only [Option.bind_some, List.nil_append, List.length_nil]
  rw [if_pos (by omega)]

set_option maxHeartbeats 4000000 in
set_option maxRecDepth 100000 in
theorem spec_hxWins_of (k : Nat) (ih : ∀ m, m < k → SMove m) : SWins k := by
  intro a c A c2 l p r w hr hc h
  cases k with
  | zero => simp [spec_hxWins.f] at h
  | succ k =>
    rw [spec_hxWins.f] at h
    obtain ⟨t, ht, h⟩ := Option.bind_eq_some_iff.mp h
    have HR := Aside0.mk hr
    have HC := Aside0.mk hc
    have HT := Aside0.mk ht
    clear hr hc ht
    go_enter Try.func40, Try.ntmps40
    go_wp2_with fail
    refine (spec_hxNeed.calls k a c _ _ l _ t _ (by repeat (first | exact HR.out | apply Kd.C_drewN)) HC.out HT.out).mono ?_
    rintro e w1 ⟨rfl, B1⟩
    have B1 := Aside0.mk (below_step (show Below w.heap.size w _ by repeat (first | exact Below.refl _ _ | apply pw_below_drewN)) B1)
    by_cases ht0 : t = 0
    · rw [if_pos ht0] at h
      obtain rfl := Option.some.inj h
      subst ht0
      go_wp2
      go_ret
      exact ⟨rfl, by repeat (first | exact B1.out | apply pw_below_drewN)⟩
    · rw [if_neg ht0] at h
      have ht1 : (t == 0) = false := beq_eq_false_iff_ne.2 ht0
      obtain ⟨u, hu, h⟩ := Option.bind_eq_some_iff.mp h
      have HU := Aside0.mk hu
      clear hu HT
      go_wp2_with fail
      refine (spec_hxNeed.calls k a c _ _ l p u _ (by repeat (first | exact Kd.C_below HR.out B1.out | apply Kd.C_drewN)) HC.out HU.out).mono ?_
      rintro e w2 ⟨rfl, B2⟩
      have B2 := Aside0.mk (below_step (show Below w.heap.size w _ by repeat (first | exact B1.out | apply pw_below_drewN)) B2)
      by_cases hu0 : u = 0
      · rw [if_pos hu0] at h
        obtain rfl := Option.some.inj h
        subst hu0
        go_wp2
        go_ret
        exact ⟨rfl, by repeat (first | exact B2.out | apply pw_below_drewN)⟩
      · rw [if_neg hu0] at h
        have hu1 : (u == 0) = false := beq_eq_false_iff_ne.2 hu0
        obtain ⟨v, hv, h⟩ := Option.bind_eq_some_iff.mp h
        have HV := Aside0.mk hv
        obtain rfl := Option.some.inj h
        clear hv HU h
        go_wp2_with fail
        refine ((ih k (Nat.lt_succ_self k)) a c _ _ l p v _ (by repeat (first | exact Kd.C_below HR.out B2.out | apply Kd.C_drewN)) HC.out HV.out).mono ?_
        rintro e w3 ⟨rfl, B3⟩
        have B3 := Aside0.mk (below_step (show Below w.heap.size w _ by repeat (first | exact B2.out | apply pw_below_drewN)) B3)
        go_wp2
        go_ret
        exact ⟨by first | rfl | simp, by repeat (first | exact B3.out | apply pw_below_drewN)⟩

set_option maxHeartbeats 4000000 in
set_option maxRecDepth 100000 in
theorem spec_hxMove_of (k : Nat) (ih : ∀ m, m < k → SWins m) : SMove k := by
  intro a c A c2 l p r w hr hc h
  have HR := Aside0.mk hr
  have HC := Aside0.mk hc
  have H' := Aside0.mk (show spec_hxMove.l0 k a c l p 0 = some r from h)
  have IH := Aside0.mk ih
  clear hr hc h ih
  go_enter Try.func44, Try.ntmps44
  go_wp2
  go_loopg [14] k (fun kq s14 wr => ∃ i : Int, s14 = .int .i64 i ∧ Aside0 (spec_hxMove.l0 kq a c l p i = some r) ∧ Aside0 (kq ≤ k) ∧ Aside0 (Below w.heap.size w wr))
  case atStart => exact ⟨0, rfl, H', ⟨Nat.le_refl _⟩, ⟨by repeat (first | exact Below.refl _ _ | apply pw_below_drewN)⟩⟩
  case round =>
    clear H'
    obtain ⟨i, rfl, HA, HK, BW⟩ := hrel
    cases gk with
    | zero => exact absurd HA.out (by simp [spec_hxMove.l0])
    | succ k1 =>
      have H := HA.out
      clear HA
      rw [spec_hxMove.l0] at H
      by_cases c1 : i < (l.length : Int)
      · rw [if_pos c1] at H
        by_cases c2' : 0 ≤ i ∧ l.length < 1000
        · rw [if_pos c2'] at H
          obtain ⟨c20, c21⟩ := c2'
          obtain ⟨ad, e1, hx⟩ := Kd.at_int (Kd.C_below HR.out BW.out) i c20 c1
          cases e1
          have HL := Aside0.mk c21
          clear c21
          by_cases c3 : rd l i > 0
          · as_aux_lemma =>
            rw [if_pos c3] at H
            have H' := Aside0.mk H
            have c3b : decide (0 < rd l i) = true := decide_eq_true c3
            clear H
            go_wp2
            go_roundg k1
            case measure => have := HK.out; omega
            case rel => exact ⟨wrap64 (i + 1), rfl, H', ⟨by have := HK.out; omega⟩, ⟨by repeat (first | exact BW.out | apply pw_below_drewN)⟩⟩
          · as_aux_lemma =>
            rw [if_neg c3] at H
            have c3b : decide (0 < rd l i) = false := decide_eq_false c3
            obtain ⟨t, ht, H⟩ := Option.bind_eq_some_iff.mp H
            have hsl : (l.set i.toNat p).length = l.length := List.length_set
            generalize hYY : l.set i.toNat p = Y at ht hsl
            have HY := Aside0.mk hYY
            have HT := Aside0.mk ht
            have H' := Aside0.mk H
            clear H ht hYY hsl
            go_wp2_with fail
            refine (spec_l1Own.calls _ _ l l _ (by repeat (first | exact Kd.C_below HR.out BW.out | apply Kd.C_drewN)) HC.out (own_f HL.out)).mono ?_
            rintro e w2 ⟨v0, rfl, RO, B2⟩
            have BW2 := Aside0.mk (below_step (show Below w.heap.size w _ by repeat (first | exact BW.out | apply pw_below_drewN)) B2)
            replace RO := Kd.R_lower RO (below_size (show Below w.heap.size w _ by repeat (first | exact BW.out | apply pw_below_drewN)))
            obtain ⟨gA, cA, eA, gbA, glA, clA, HGA⟩ := Kd.R_form RO (by omega)
            cases eA
            have GBA := Aside0.mk gbA
            obtain ⟨hx9, hf9⟩ := Kd.R_celln 0 RO i c20 c1
            have HP := Kd.R_putg RO i p
            clear B2 RO gbA glA clA HGA hx
            go_wp2_with ((with_reducible refine gate_store (t := 3) (p := 26) rfl ?_); refine store_event (t := 3) (p := 26) (v := ?vo_w12) (w1 := (w2.setCell ⟨gA, i.toNat, none⟩ (.int .i64 p))) ?hg ?ho ?hn ?hr ?_; (case ho => rfl); (case hg => rfl); (case hn => rfl); (case hr => first | (go_simp; done) | (go_simp; rfl)); intro w3 hw; have hp_ : Kd.R (Kd.int .i64) 3 w3 w.heap.size (fun _ => True) (.slice (some ⟨gA, 0, none⟩) l.length cA) Y := (by rw [hw, ← HY.out]; exact HP.1); have BW3 := Aside0.mk ((by rw [hw]; exact below_set BW2.out GBA.out : Below w.heap.size w w3)); clear HP hw; generalize (Value.slice (some ⟨gA, 0, none⟩) l.length cA) = v2 at hp_ ⊢; obtain ⟨A2, cc2, rfl⟩ := Kd.R_slice hp_; have CY := Aside0.mk (Kd.R_reads' hp_); clear hp_ hx9 hf9)
            refine ((IH.out k1 (by have := HK.out; omega)) a c _ _ Y _ t _ (by repeat (first | exact CY.out.2.2 | apply Kd.C_drewN)) CY.out.2.1 HT.out).mono ?_
            rintro e w4 ⟨rfl, BX⟩
            have BW4 := Aside0.mk (below_step (show Below w.heap.size w _ by repeat (first | exact BW3.out | apply pw_below_drewN)) BX)
            clear BX CY HT HY BW BW2 BW3
            cases t with
            | true =>
              have H' := Aside0.mk (show spec_hxMove.l0 k1 a c l p (wrap64 (i + 1)) = some r from H'.out)
              go_wp2
              go_roundg k1
              case measure => have := HK.out; omega
              case rel => exact ⟨wrap64 (i + 1), rfl, H', ⟨by have := HK.out; omega⟩, ⟨by repeat (first | exact BW4.out | apply pw_below_drewN)⟩⟩
            | false =>
              have H2 : some i = some r := H'.out
              obtain rfl := Option.some.inj H2
              clear H2
              go_wp2
              go_ret
              exact ⟨rfl, by repeat (first | exact BW4.out | apply pw_below_drewN)⟩
        · rw [if_neg c2'] at H
          exact absurd H (by simp)
      · rw [if_neg c1] at H
        obtain rfl := Option.some.inj H
        clear H
        go_wp2
        go_ret
        exact ⟨rfl, by repeat (first | exact BW.out | apply pw_below_drewN)⟩
theorem spec_game (k : Nat) : SWins k ∧ SMove k := by
  induction k using Nat.strongRecOn with
  | _ k ih => exact ⟨spec_hxWins_of k (fun m hm => (ih m hm).2), spec_hxMove_of k (fun m hm => (ih m hm).1)⟩
theorem spec_hxWins.calls (k : Nat) (a0 : Int) (a1 : Int) (A2 : Option Addr) (c2 : Nat) (l2 : List Int) (a3 : Int) (r : Bool) (w : World) (hr2 : Kd.C (Kd.int .i64) w A2 l2.length l2) (hc2 : l2.length ≤ c2) (h : spec_hxWins.f k a0 a1 l2 a3 = some r) :
    Calls Try.prog 40 #[.int .i64 a0, .int .i64 a1, .slice A2 l2.length c2, .int .i64 a3] w fun e w' => e = .returned (.bool r) ∧ Below w.heap.size w w' := (spec_game k).1 a0 a1 A2 c2 l2 a3 r w hr2 hc2 h
theorem spec_hxMove.calls (k : Nat) (a0 : Int) (a1 : Int) (A2 : Option Addr) (c2 : Nat) (l2 : List Int) (a3 : Int) (r : Int) (w : World) (hr2 : Kd.C (Kd.int .i64) w A2 l2.length l2) (hc2 : l2.length ≤ c2) (h : spec_hxMove.f k a0 a1 l2 a3 = some r) :
    Calls Try.prog 44 #[.int .i64 a0, .int .i64 a1, .slice A2 l2.length c2, .int .i64 a3] w fun e w' => e = .returned (.int .i64 r) ∧ Below w.heap.size w w' := (spec_game k).2 a0 a1 A2 c2 l2 a3 r w hr2 hc2 h
end Go.Proofs.Ytjajahofbhcioaa.Given
