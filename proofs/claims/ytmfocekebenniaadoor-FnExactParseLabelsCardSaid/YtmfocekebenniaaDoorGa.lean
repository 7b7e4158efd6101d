/- Contracts of functions of impl that take closures or arrays, by hand: areLabels and the library's ContainsFunc and IndexFunc over ints. For all arguments, slices read as lists. -/
import Derived.Test.YtmfocekebenniaaDoorQx0
import Derived.Test.YtmfocekebenniaaDoorQx4
import Derived.Outline
import Derived.Lib.Walk
import Derived.Shelf.Abstract
namespace Go.Proofs.YtmfocekebenniaaDoor.Given
open Go.Proofs.YtmfocekebenniaaDoor.Q Go.RowKit Go.Proofs.YtmfocekebenniaaDoorW.PrintWords Go.Proofs.YtmfocekebenniaaDoorW.PrintLast Go.Proofs.YtmfocekebenniaaDoorW.PrintMore
set_option linter.unusedVariables false
set_option linter.unusedSimpArgs false

/-- The place of the first element at which p holds, or -1. -/
def fidx (p : Int → Bool) : Nat → List Int → Int
  | _, [] => -1
  | i, x :: xs => if p x then (i : Int) else fidx p (i + 1) xs

theorem fidx_hit (p : Int → Bool) (l : List Int) : ∀ (i k : Nat), k < l.length → (∀ j, j < k → p (l.getD j 0) = false) → p (l.getD k 0) = true → fidx p i l = ((i + k : Nat) : Int) := by
  induction l with
  | nil => intro i k h; simp at h
  | cons x xs ih =>
    intro i k hk hm hh
    cases k with
    | zero => simp only [fidx]; rw [if_pos (by simpa using hh)]; simp
    | succ k =>
      have h0 : p x = false := by simpa using hm 0 (by omega)
      simp only [fidx]
      rw [if_neg (by simp [h0])]
      rw [ih (i + 1) k (by simpa using hk) (fun j hj => by simpa using hm (j + 1) (by omega)) (by simpa using hh)]
      congr 1; omega

theorem fidx_miss (p : Int → Bool) (l : List Int) : ∀ (i : Nat), (∀ j, j < l.length → p (l.getD j 0) = false) → fidx p i l = -1 := by
  induction l with
  | nil => intro i _; rfl
  | cons x xs ih =>
    intro i hm
    have h0 : p x = false := by simpa using hm 0 (by simp)
    simp only [fidx]
    rw [if_neg (by simp [h0])]
    exact ih (i + 1) (fun j hj => by simpa using hm (j + 1) (by simpa using hj))

theorem fidx_any (p : Int → Bool) (l : List Int) : ∀ (i : Nat), decide (fidx p i l ≥ 0) = l.any p := by
  induction l with
  | nil => intro i; rfl
  | cons x xs ih =>
    intro i
    simp only [fidx, List.any_cons]
    by_cases h : p x = true
    · simp [h]
    · have h' : p x = false := by simpa using h
      simp [h', ih]

set_option maxHeartbeats 2000000 in
theorem IndexFunc_any (p : Int → Bool) (g : Nat) (lb : Array Value) (eg : ∀ args w, (callFunc g args).run Tryd.prog w = .ok (.enter g args) w) (A : Option Addr) (c : Nat) (l : List Int) (w : World)
    (hp : ∀ (x : Int), x ∈ l → ∀ (q : Nat), Calls Tryd.prog g (#[.int .i64 x] ++ lb) (w.drewN q) fun e w' => e = .returned (.bool (p x)) ∧ Drawn0 (w.drewN q) w')
    (hr : Kd.C (Kd.int .i64) w A l.length l) (hc : l.length ≤ c) :
    Calls Tryd.prog 54 #[.slice A l.length c, .func (.func g) #[] lb] w fun e w' => e = .returned (.int .i64 (fidx p 0 l)) ∧ Drawn0 w w' := by
  have HR := Aside0.mk hr
  have HC := Aside0.mk hc
  have HP := Aside0.mk hp
  have hm : l.length ≤ 9223372036854775807 := Kd.C_max hr
  clear hr hc hp
  go_enter Tryd.func54, Tryd.ntmps54
  go_wp2
  go_loopg [5, 8] l.length (fun gg _ s8 wr => ∃ kk q : Nat, kk ≤ l.length ∧ l.length - kk ≤ gg ∧ s8 = .int .i64 kk ∧ wr = w.drewN q ∧ Aside0 (∀ j, j < kk → p (l.getD j 0) = false))
  case atStart => exact ⟨0, 0, Nat.zero_le _, by omega, rfl, rfl, ⟨fun j hj => absurd hj (Nat.not_lt_zero _)⟩⟩
  case round =>
    obtain ⟨kk, q, hkk, hg, rfl, rfl, M⟩ := hrel
    by_cases hlt : kk < l.length
    · have hltz : (kk : Int) < (l.length : Int) := by omega
      obtain ⟨ad, e1, hx⟩ := Kd.at_int (Kd.C_drewN HR.out q) kk (by omega) hltz
      cases e1
      have hx' : (w.drewN q).cell? (ad.add kk) = some (.int .i64 (l.getD kk 0)) := hx
      clear hx
      have hcall := HP.out (l.getD kk 0) (by rw [List.getD_eq_getElem?_getD, List.getElem?_eq_getElem hlt]; simp)
      generalize hy : l.getD kk 0 = y at hx' hcall
      have B := Aside0.mk hy
      clear hy
      cases hq : p y with
      | true =>
        rw [hq] at hcall
        go_wp2_with (go_at_fn g; refine (hcall _).mono ?_; rintro e w' ⟨rfl, ⟨q', rfl⟩⟩)
        go_ret
        refine ⟨?_, ⟨⟨_, rfl⟩⟩⟩
        rw [fidx_hit p l 0 kk hlt M.out (by rw [B.out]; exact hq), Nat.zero_add]
        rfl
      | false =>
        rw [hq] at hcall
        go_wp2_with (go_at_fn g; refine (hcall _).mono ?_; rintro e w' ⟨rfl, ⟨q', rfl⟩⟩)
        go_roundg (l.length - (kk + 1))
        case measure => omega
        case rel =>
          refine ⟨kk + 1, _, by omega, by omega, by go_num, rfl, ⟨fun j hj => ?_⟩⟩
          by_cases e : j = kk
          · subst e
            rw [B.out]; exact hq
          · exact M.out j (by omega)
    · have hltz : ¬ (kk : Int) < (l.length : Int) := by omega
      have hk : kk = l.length := by omega
      have HK := Aside0.mk hk
      clear hk
      go_wp2
      go_ret
      refine ⟨?_, ⟨⟨q, rfl⟩⟩⟩
      rw [fidx_miss p l 0 (by rw [← HK.out]; exact M.out)]
      rfl

set_option maxHeartbeats 1000000 in
theorem ContainsFunc_any (p : Int → Bool) (g : Nat) (lb : Array Value) (eg : ∀ args w, (callFunc g args).run Tryd.prog w = .ok (.enter g args) w) (A : Option Addr) (c : Nat) (l : List Int) (w : World)
    (hp : ∀ (x : Int), x ∈ l → ∀ (q : Nat), Calls Tryd.prog g (#[.int .i64 x] ++ lb) (w.drewN q) fun e w' => e = .returned (.bool (p x)) ∧ Drawn0 (w.drewN q) w')
    (hr : Kd.C (Kd.int .i64) w A l.length l) (hc : l.length ≤ c) :
    Calls Tryd.prog 34 #[.slice A l.length c, .func (.func g) #[] lb] w fun e w' => e = .returned (.bool (l.any p)) ∧ Drawn0 w w' := by
  have H := IndexFunc_any p g lb eg A c l w hp hr hc
  have B := Aside0.mk (fidx_any p l 0)
  clear hp hr hc
  generalize fidx p 0 l = r at H B
  generalize l.any p = b at B ⊢
  go_enter Tryd.func34, Tryd.ntmps34
  go_wp2_with (go_at_call 54; refine H.mono ?_; rintro e w' ⟨rfl, ⟨q, rfl⟩⟩)
  go_ret
  exact ⟨by rw [← B.out]; rfl, ⟨⟨_, rfl⟩⟩⟩


/-- A test on a number in a range, as the closures ask it. -/
theorem areLabels1 (x : Int) (w : World) : Calls Tryd.prog 46 #[.int .i64 x] w fun e w' => e = .returned (.bool (!(decide (0 ≤ x) && decide (x ≤ 2)))) ∧ Drawn0 w w' := by
  by_cases h1 : 0 ≤ x <;> by_cases h2 : x ≤ 2
  all_goals
    go_enter Tryd.func46, Tryd.ntmps46
    go_wp2
    all_goals first | (exfalso; omega) | (go_ret; exact ⟨by simp [h1, h2], Drawn0.refl _⟩)

def inRange (a b c : Int) : Bool := decide (b ≤ a) && decide (a ≤ c)
def impl_areLabels.f (a0 : Int) (l1 : List Int) : Option Bool := (impl_isSide.f a0).bind fun s => (impl_many.f a0).bind fun m => some (s && (((l1.length : Int) == m) && l1.all fun x => inRange x 0 2))

theorem all_any (l : List Int) : (l.all fun x => inRange x 0 2) = !(l.any fun x => !(decide (0 ≤ x) && decide (x ≤ 2))) :=
  List.all_eq_not_any_not

set_option maxHeartbeats 1000000 in
theorem impl_areLabels.calls (a0 : Int) (A1 : Option Addr) (c1 : Nat) (l1 : List Int) (r : Bool) (w : World) (hr1 : Kd.C (Kd.int .i64) w A1 l1.length l1) (hc1 : l1.length ≤ c1) (h : impl_areLabels.f a0 l1 = some r) :
    Calls Tryd.prog 24 #[.int .i64 a0, .slice A1 l1.length c1] w fun e w' => e = .returned (.bool r) ∧ Drawn0 w w' := by
  have hcon := fun q => ContainsFunc_any (fun x => !(decide (0 ≤ x) && decide (x ≤ 2))) 46 #[] (enters_of Tryd.func46 (by kernel_rfl) rfl) A1 c1 l1 (w.drewN q) (fun x _ q => areLabels1 x _) (Kd.C_drewN hr1 q) hc1
  clear hr1 hc1
  simp only [impl_areLabels.f, all_any] at h
  generalize (l1.any fun x => !(decide (0 ≤ x) && decide (x ≤ 2))) = b at hcon h
  obtain ⟨s, hs, h⟩ := Option.bind_eq_some_iff.mp h
  obtain ⟨m, hm, h⟩ := Option.bind_eq_some_iff.mp h
  have HS := Aside0.mk hs
  have HM := Aside0.mk hm
  have HC := Aside0.mk hcon
  obtain rfl := Option.some.inj h
  clear h hs hm hcon
  cases s with
  | false =>
    go_enter Tryd.func24, Tryd.ntmps24
    go_wp2_with (go_at_call 44; refine (impl_isSide.calls _ _ _ HS.out).mono ?_; rintro e w' ⟨rfl, ⟨q, rfl⟩⟩)
    go_ret
    exact ⟨by simp, ⟨⟨_, rfl⟩⟩⟩
  | true =>
    by_cases hl : (l1.length : Int) = m
    · have e1 : ((l1.length : Int) == m) = true := beq_iff_eq.mpr hl
      have e2 : ((l1.length : Int) != m) = false := bne_eq_false_iff_eq.mpr hl
      clear hl
      go_enter Tryd.func24, Tryd.ntmps24
      go_wp2_with (first | (go_at_call 44; refine (impl_isSide.calls _ _ _ HS.out).mono ?_; rintro e w' ⟨rfl, ⟨q, rfl⟩⟩) | (go_at_call 45; refine (impl_many.calls _ _ _ HM.out).mono ?_; rintro e w' ⟨rfl, ⟨q, rfl⟩⟩) | (go_at_call 34; refine (HC.out _).mono ?_; rintro e w' ⟨rfl, ⟨q, rfl⟩⟩))
      go_ret
      exact ⟨by simp [e1], ⟨⟨_, rfl⟩⟩⟩
    · have e1 : ((l1.length : Int) == m) = false := beq_eq_false_iff_ne.mpr hl
      have e2 : ((l1.length : Int) != m) = true := bne_iff_ne.mpr hl
      clear hl
      go_enter Tryd.func24, Tryd.ntmps24
      go_wp2_with (first | (go_at_call 44; refine (impl_isSide.calls _ _ _ HS.out).mono ?_; rintro e w' ⟨rfl, ⟨q, rfl⟩⟩) | (go_at_call 45; refine (impl_many.calls _ _ _ HM.out).mono ?_; rintro e w' ⟨rfl, ⟨q, rfl⟩⟩))
      go_ret
      exact ⟨by simp [e1], ⟨⟨_, rfl⟩⟩⟩

end Go.Proofs.YtmfocekebenniaaDoor.Given
