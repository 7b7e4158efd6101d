/- impl.areSigns, impl.mapped with a function value, impl.NegateLabels and impl.AddTurn by hand; for all slices that read as lists. -/
import Derived.Test.YtmdhclpkbopmdaaGa
import Derived.Test.YtmdhclpkbopmdaaQx3
import Derived.Lib.Walk
import Derived.Shelf.Abstract
import Derived.Outline
import Derived.WalkLawsBesides
namespace Go.Proofs.Ytmdhclpkbopmdaa.Given
open Go.Proofs.Ytmdhclpkbopmdaa.Q Go.RowKit Go.Proofs.YtmdhclpkbopmdaaW.PrintWords Go.Proofs.YtmdhclpkbopmdaaW.PrintLast Go.Proofs.YtmdhclpkbopmdaaW.PrintMore
set_option linter.unusedVariables false
set_option linter.unusedSimpArgs false

theorem areSigns1 (x : Int) (w : World) : Calls Try.prog 107 #[.int .i64 x] w fun e w' => e = .returned (.bool (!(inRange x (-2) 2) || x == 0)) ∧ Drawn0 w w' := by
  by_cases h0 : x = 0
  · subst h0
    go_enter Try.func107, Try.ntmps107
    go_wp2
    go_ret
    exact ⟨by simp, Drawn0.refl _⟩
  · have e0 : (x == 0) = false := beq_eq_false_iff_ne.mpr h0
    by_cases h1 : -2 ≤ x <;> by_cases h2 : x ≤ 2
    all_goals
      go_enter Try.func107, Try.ntmps107
      go_wp2
      all_goals first | (exfalso; omega) | (go_ret; exact ⟨by simp [inRange, h1, h2, e0], Drawn0.refl _⟩)

def signs (a0 : Int) : Int := wrap64 ((wrap64 ((wrap64 (2 * a0)) + 1)) * (wrap64 ((wrap64 (2 * a0)) + 1)))
def impl_areSigns.f (a0 : Int) (l1 : List Int) : Option Bool := (impl_isReach.f a0).bind fun s => some (s && (((l1.length : Int) == signs a0) && !(l1.any fun x => !(inRange x (-2) 2) || x == 0)))

set_option maxHeartbeats 1000000 in
theorem impl_areSigns.calls (a0 : Int) (A1 : Option Addr) (c1 : Nat) (l1 : List Int) (r : Bool) (w : World) (hr1 : Kd.C (Kd.int .i64) w A1 l1.length l1) (hc1 : l1.length ≤ c1) (h : impl_areSigns.f a0 l1 = some r) :
    Calls Try.prog 82 #[.int .i64 a0, .slice A1 l1.length c1] w fun e w' => e = .returned (.bool r) ∧ Drawn0 w w' := by
  have hcon := fun q => ContainsFunc_any (fun x => !(inRange x (-2) 2) || x == 0) 107 #[] (enters_of Try.func107 (by kernel_rfl) rfl) A1 c1 l1 (w.drewN q) (fun x _ q => areSigns1 x _) (Kd.C_drewN hr1 q) hc1
  clear hr1 hc1
  simp only [impl_areSigns.f] at h
  generalize (l1.any fun x => !(inRange x (-2) 2) || x == 0) = b at hcon h
  obtain ⟨s, hs, h⟩ := Option.bind_eq_some_iff.mp h
  have HS := Aside0.mk hs
  have HC := Aside0.mk hcon
  obtain rfl := Option.some.inj h
  clear h hs hcon
  cases s with
  | false =>
    go_enter Try.func82, Try.ntmps82
    go_wp2_with (go_at_call 70; refine (impl_isReach.calls _ _ _ HS.out).mono ?_; rintro e w' ⟨rfl, ⟨q, rfl⟩⟩)
    go_ret
    exact ⟨by simp, ⟨⟨_, rfl⟩⟩⟩
  | true =>
    by_cases hl : (l1.length : Int) = signs a0
    · have e1 : ((l1.length : Int) == signs a0) = true := beq_iff_eq.mpr hl
      have e2 : ((l1.length : Int) != (wrap64 ((wrap64 ((wrap64 (2 * a0)) + 1)) * (wrap64 ((wrap64 (2 * a0)) + 1))))) = false := bne_eq_false_iff_eq.mpr hl
      have e3 : ((l1.length : Int) == (wrap64 ((wrap64 ((wrap64 (2 * a0)) + 1)) * (wrap64 ((wrap64 (2 * a0)) + 1))))) = true := beq_iff_eq.mpr hl
      clear hl
      go_enter Try.func82, Try.ntmps82
      go_wp2_with (first | (go_at_call 70; refine (impl_isReach.calls _ _ _ HS.out).mono ?_; rintro e w' ⟨rfl, ⟨q, rfl⟩⟩) | (go_at_call 100; refine (HC.out _).mono ?_; rintro e w' ⟨rfl, ⟨q, rfl⟩⟩))
      go_ret
      exact ⟨by simp [e1], ⟨⟨_, rfl⟩⟩⟩
    · have e1 : ((l1.length : Int) == signs a0) = false := beq_eq_false_iff_ne.mpr hl
      have e2 : ((l1.length : Int) != (wrap64 ((wrap64 ((wrap64 (2 * a0)) + 1)) * (wrap64 ((wrap64 (2 * a0)) + 1))))) = true := bne_iff_ne.mpr hl
      have e3 : ((l1.length : Int) == (wrap64 ((wrap64 ((wrap64 (2 * a0)) + 1)) * (wrap64 ((wrap64 (2 * a0)) + 1))))) = false := beq_eq_false_iff_ne.mpr hl
      clear hl
      go_enter Try.func82, Try.ntmps82
      go_wp2_with (go_at_call 70; refine (impl_isReach.calls _ _ _ HS.out).mono ?_; rintro e w' ⟨rfl, ⟨q, rfl⟩⟩)
      go_ret
      exact ⟨by simp [e1], ⟨⟨_, rfl⟩⟩⟩
theorem lit0 (w : World) (B : Nat) (ok : Nat → Prop) (hB : B ≤ w.heap.size) (ho : ok w.heap.size) : Kd.R (Kd.int .i64) 3 (w.alloc (.cells #[] 3)) B ok (.slice (some ⟨w.heap.size, 0, none⟩) 0 0) [] :=
  ⟨fun k hk => by simp [Value.ownBlock] at hk; subst hk; exact ho, [], ⟨rfl, .inr ⟨w.heap.size, 0, #[], rfl, hB, by show (w.heap.push _)[w.heap.size]? = _; simp, Nat.le_refl _, Nat.zero_le _, rfl, rfl⟩⟩, Reps.none _ _⟩
theorem infoI : (Try.prog.info? 3).map (fun i => (i.zero, i.size, i.bytes)) = some (some (.int .i64 0), 1, 8) := by kernel_rfl

def mapF (o : Int → Int) (a0 : Int) (l1 : List Int) : Option (List Int × Bool) := (impl_areSigns.f a0 l1).bind fun b => if b = true then some (l1.map o, true) else some ([], false)

set_option maxHeartbeats 4000000 in
set_option maxRecDepth 100000 in
theorem mapped_any (g2 : Nat) (eg2 : ∀ args w, (callFunc g2 args).run Try.prog w = .ok (.enter g2 args) w)
    (o : Int → Int)
    (h2 : ∀ (x : Int) (W : World), Calls Try.prog g2 #[.int .i64 x] W fun e w' => e = .returned (.int .i64 (o x)) ∧ Drawn0 W w')
    (a0 : Int) (A1 : Option Addr) (c1 : Nat) (l1 : List Int) (r1 : List Int) (r2 : Bool) (w : World) (hr1 : Kd.C (Kd.int .i64) w A1 l1.length l1) (hc1 : l1.length ≤ c1) (h : mapF o a0 l1 = some (r1, r2)) :
    Calls Try.prog 73 #[.int .i64 a0, .slice A1 l1.length c1, .func (.func g2) #[] #[]] w fun e w' => ∃ v0_ : Value, e = .returned (.tuple #[v0_, .bool r2]) ∧ Kd.R (Kd.int .i64) 3 w' w.heap.size (fun _ => True) v0_ r1 ∧ Below w.heap.size w w' := by
  obtain ⟨b, hb, h⟩ := Option.bind_eq_some_iff.mp h
  have HAL := Aside0.mk hb
  clear hb
  have HL := Aside0.mk hr1
  have HC := Aside0.mk hc1
  have H2 := Aside0.mk h2
  clear hr1 hc1 h2
  cases b with
  | false =>
    simp only [Bool.false_eq_true, if_false, Option.some.injEq, Prod.mk.injEq] at h
    obtain ⟨rfl, rfl⟩ := h
    go_enter Try.func73, Try.ntmps73
    go_wp2_with fail
    refine (impl_areSigns.calls _ _ _ l1 _ _ HL.out HC.out HAL.out).mono ?_
    rintro e w1 ⟨rfl, ⟨q, rfl⟩⟩
    go_wp2_with fail
    go_ret2
    exact ⟨_, rfl, Kd.R_nil _ _ _ _ _, by repeat (first | exact Below.refl _ _ | apply pw_below_drewN)⟩
  | true =>
    simp only [if_true, Option.some.injEq, Prod.mk.injEq] at h
    obtain ⟨hr, rfl⟩ := h
    have HR := Aside0.mk hr
    clear hr
    have hm := Kd.C_max HL.out
    have HM : Aside0 (l1.length ≤ 81) := ⟨by
      have h := HAL.out
      unfold impl_areSigns.f impl_isReach.f impl_in.f at h
      by_cases n1 : 1 ≤ a0
      · by_cases n2 : a0 ≤ 4
        · simp [n1, n2] at h
          have h1 := h.1
          unfold signs at h1
          obtain rfl | rfl | rfl | rfl : a0 = 1 ∨ a0 = 2 ∨ a0 = 3 ∨ a0 = 4 := by omega
          all_goals (simp [wrap64] at h1; omega)
        · simp [n1, n2] at h
      · simp [n1] at h⟩
    go_enter Try.func73, Try.ntmps73
    go_wp2_with fail
    refine (impl_areSigns.calls _ _ _ l1 _ _ HL.out HC.out HAL.out).mono ?_
    rintro e w1 ⟨rfl, ⟨q, rfl⟩⟩
    go_wp2_with fail
    have RO := Aside0.mk (lit0 (w.drewN q) w.heap.size (fun _ => True) (Nat.le_refl _) trivial)
    have B2 := Aside0.mk (below_alloc (pw_below_drewN (Below.refl w.heap.size w) q) (.cells #[] 3))
    generalize ((w.drewN q).alloc (.cells #[] 3)) = w2 at RO B2 ⊢
    go_loopg [8, 18] l1.length (fun gg s8 s18 wr => ∃ kk : Nat, kk ≤ l1.length ∧ l1.length - kk ≤ gg ∧ s18 = .int .i64 kk ∧ Aside0 (Kd.R (Kd.int .i64) 3 wr w.heap.size (fun _ => True) s8 ((l1.take kk).map o)) ∧ Aside0 (Below w.heap.size w wr))
    case atStart => exact ⟨0, by omega, by omega, rfl, RO, B2⟩
    case round =>
      clear RO B2
      obtain ⟨kk, hkk, hg, rfl, RO, BB⟩ := hrel
      by_cases hlt : kk < l1.length
      · have hltz : (kk : Int) < (l1.length : Int) := by omega
        have pk : 0 ≤ (kk : Int) := by omega
        obtain ⟨adl, e1, hx⟩ := Kd.at_int (Kd.C_below HL.out BB.out) kk pk hltz
        cases e1
        simp only [Int.toNat_natCast] at hx
        have EX := Aside0.mk (show (l1.take (kk + 1)).map o = (l1.take kk).map o ++ [o (rd l1 kk)] by
          rw [List.take_add_one, List.map_append, List.getElem?_eq_getElem hlt]
          simp [rd, List.getElem?_eq_getElem hlt])
        have LEN := Aside0.mk (show ((l1.take kk).map o).length ≤ 81 by rw [List.length_map, List.length_take]; have := HM.out; omega)
        generalize (l1.take kk).map o = l at RO EX LEN
        generalize rd l1 kk = x at hx EX
        go_wp2_with fail
        refine (H2.out x _).mono ?_
        rintro e w7 ⟨rfl, ⟨q7, rfl⟩⟩
        have ro_ := Aside0.mk (Kd.R_drewN RO.out q7)
        have bb_ := Aside0.mk (pw_below_drewN BB.out q7)
        clear RO BB
        have RO := ro_
        have BB := bb_
        clear ro_ bb_
        go_wp2_with (at_builtin; refine Kd.R_append (Kd.int .i64) (w0 := w) w.heap.size rfl (.tmp 22) (.tmp 26) 32 3 (.int .i64 0) 8 rfl Try.underlying32 infoI rfl (by decide) (by omega) u8 l (o x) [.int .i64 (o x)] (fun _ => True) (fun _ => False) rfl rfl ?aP (fun _ hk => hk.elim) ?aF ?aO ?aB ?aS ?aL ?_; (case aP => exact rfl); (case aB => exact (by repeat (first | exact BB.out | apply below_alloc | apply pw_below_drewN | apply below_drew1))); (case aF => exact (fun k_ hk => trivial)); (case aO => exact (by (with_reducible repeat (first | apply Kd.R_alloc | apply Kd.R_drewN | apply Kd.R_drew)); exact RO.out)); (case aS => exact (below_size (by repeat (first | exact BB.out | apply below_alloc | apply pw_below_drewN | apply below_drew1)))); (case aL => have := LEN.out; omega); intro v220 w11 ho hb hg hat; have HO := Aside0.mk ho; have HBB := Aside0.mk hb; clear ho hb hg hat)
        go_roundg (l1.length - (kk + 1))
        case measure => omega
        case rel =>
          refine ⟨kk + 1, by omega, by omega, by go_num, ⟨?_⟩, HBB⟩
          rw [EX.out]
          exact HO.out
      · have hltz : ¬ (kk : Int) < (l1.length : Int) := by omega
        have hke : kk = l1.length := by omega
        subst hke
        rw [List.take_length, HR.out] at RO
        go_wp2
        go_ret2
        exact ⟨_, rfl, RO.out, BB.out⟩

def impl_NegateLabels.f (a0 : Int) (l1 : List Int) : Option (List Int × Bool) := mapF (fun x => wrap64 (-x)) a0 l1
def turn (x : Int) : Int := if x = 1 then 2 else if x = 2 then -1 else if x = -1 then -2 else 1
def impl_AddTurn.f (a0 : Int) (l1 : List Int) : Option (List Int × Bool) := mapF turn a0 l1

set_option maxHeartbeats 4000000 in
set_option maxRecDepth 100000 in
theorem impl_NegateLabels.calls (a0 : Int) (A1 : Option Addr) (c1 : Nat) (l1 : List Int) (r1 : List Int) (r2 : Bool) (w : World) (hr1 : Kd.C (Kd.int .i64) w A1 l1.length l1) (hc1 : l1.length ≤ c1) (h : impl_NegateLabels.f a0 l1 = some (r1, r2)) :
    Calls Try.prog 29 #[.int .i64 a0, .slice A1 l1.length c1] w fun e w' => ∃ v0_ : Value, e = .returned (.tuple #[v0_, .bool r2]) ∧ Kd.R (Kd.int .i64) 3 w' w.heap.size (fun _ => True) v0_ r1 ∧ Below w.heap.size w w' := by
  have hm := Kd.C_max hr1
  go_enter Try.func29, Try.ntmps29
  go_wp2_with fail
  refine (mapped_any 74 (enters_of Try.func74 (by kernel_rfl) rfl) (fun x => wrap64 (-x)) ?_ a0 A1 c1 l1 r1 r2 w hr1 hc1 h).mono ?_
  · intro x W
    go_enter Try.func74, Try.ntmps74
    go_wp2
    go_ret
    exact ⟨rfl, Drawn0.refl _⟩
  rintro e w1 ⟨v0, rfl, R, B⟩
  go_wp2
  go_ret2
  exact ⟨_, rfl, R, B⟩

set_option maxHeartbeats 4000000 in
set_option maxRecDepth 100000 in
theorem impl_AddTurn.calls (a0 : Int) (A1 : Option Addr) (c1 : Nat) (l1 : List Int) (r1 : List Int) (r2 : Bool) (w : World) (hr1 : Kd.C (Kd.int .i64) w A1 l1.length l1) (hc1 : l1.length ≤ c1) (h : impl_AddTurn.f a0 l1 = some (r1, r2)) :
    Calls Try.prog 31 #[.int .i64 a0, .slice A1 l1.length c1] w fun e w' => ∃ v0_ : Value, e = .returned (.tuple #[v0_, .bool r2]) ∧ Kd.R (Kd.int .i64) 3 w' w.heap.size (fun _ => True) v0_ r1 ∧ Below w.heap.size w w' := by
  have hm := Kd.C_max hr1
  go_enter Try.func31, Try.ntmps31
  go_wp2_with fail
  refine (mapped_any 76 (enters_of Try.func76 (by kernel_rfl) rfl) turn ?_ a0 A1 c1 l1 r1 r2 w hr1 hc1 h).mono ?_
  · intro x W
    refine impl_turned.calls x _ W ?_
    unfold impl_turned.f turn
    by_cases h1 : x = 1 <;> by_cases h2 : x = 2 <;> by_cases h3 : x = -1 <;> simp [h1, h2, h3]
  rintro e w1 ⟨v0, rfl, R, B⟩
  go_wp2
  go_ret2
  exact ⟨_, rfl, R, B⟩
end Go.Proofs.Ytmdhclpkbopmdaa.Given
