/- Contracts of functions of impl that take closures or arrays, by hand: areLabels and the library's ContainsFunc and IndexFunc over ints. For all arguments, slices read as lists. -/
import Derived.Test.YtcnplmajlanmdaaQx0
import Derived.Test.YtcnplmajlanmdaaQx2
import Derived.Outline
import Derived.Lib.Walk
import Derived.Shelf.Abstract
namespace Go.Proofs.Ytcnplmajlanmdaa.Given
open Go.Proofs.Ytcnplmajlanmdaa.Q Go.RowKit Go.Proofs.YtcnplmajlanmdaaW.PrintWords Go.Proofs.YtcnplmajlanmdaaW.PrintLast Go.Proofs.YtcnplmajlanmdaaW.PrintMore
set_option linter.unusedVariables false
set_option linter.unusedSimpArgs false

/-- The place of the first element at which p holds, or -1. -/
def fidx (p : Int → Bool) : Nat → List Int → Int
  | _, [] => -1
  | i, x :: xs => if p x then (i : Int) else fidx p (i + 1) xs

theorem fidx_hit (p : Int → Bool) (l : List Int) : ∀ (i k : Nat), k < l.length → (∀ j, j < k → p (l.getD j 0) = false) → p (l.getD k 0) = true → fidx p i l = ((i + k : Nat) : Int) := by
  induction l with
  | nil => intro i k h; simp at h
  | cons x xs ih =>
    intro i k hk hm hh
    cases k with
    | zero => simp only [fidx]; rw [if_pos (by simpa using hh)]; simp
    | succ k =>
      have h0 : p x = false := by simpa using hm 0 (by omega)
      simp only [fidx]
      rw [if_neg (by simp [h0])]
      rw [ih (i + 1) k (by simpa using hk) (fun j hj => by simpa using hm (j + 1) (by omega)) (by simpa using hh)]
      congr 1; omega

theorem fidx_miss (p : Int → Bool) (l : List Int) : ∀ (i : Nat), (∀ j, j < l.length → p (l.getD j 0) = false) → fidx p i l = -1 := by
  induction l with
  | nil => intro i _; rfl
  | cons x xs ih =>
    intro i hm
    have h0 : p x = false := by simpa using hm 0 (by simp)
    simp only [fidx]
    rw [if_neg (by simp [h0])]
    exact ih (i + 1) (fun j hj => by simpa using hm (j + 1) (by simpa using hj))

theorem fidx_any (p : Int → Bool) (l : List Int) : ∀ (i : Nat), decide (fidx p i l ≥ 0) = l.any p := by
  induction l with
  | nil => intro i; rfl
  | cons x xs ih =>
    intro i
    simp only [fidx, List.any_cons]
    by_cases h : p x = true
    · simp [h]
    · have h' : p x = false := by simpa using h
      simp [h', ih]

set_option maxHeartbeats 2000000 in
theorem IndexFunc_any (p : Int → Bool) (g : Nat) (lb : Array Value) (eg : ∀ args w, (callFunc g args).run Try.prog w = .ok (.enter g args) w) (A : Option Addr) (c : Nat) (l : List Int) (w : World)
    (hp : ∀ (x : Int), x ∈ l → ∀ (q : Nat), Calls Try.prog g (#[.int .i64 x] ++ lb) (w.drewN q) fun e w' => e = .returned (.bool (p x)) ∧ Drawn0 (w.drewN q) w')
    (hr : Kd.C (Kd.int .i64) w A l.length l) (hc : l.length ≤ c) :
    Calls Try.prog 82 #[.slice A l.length c, .func (.func g) #[] lb] w fun e w' => e = .returned (.int .i64 (fidx p 0 l)) ∧ Drawn0 w w' := by
  have HR := Aside0.mk hr
  have HC := Aside0.mk hc
  have HP := Aside0.mk hp
  have hm : l.length ≤ 9223372036854775807 := Kd.C_max hr
  clear hr hc hp
  go_enter Try.func82, Try.ntmps82
  go_wp2
  go_loopg [5, 8] l.length (fun gg _ s8 wr => ∃ kk q : Nat, kk ≤ l.length ∧ l.length - kk ≤ gg ∧ s8 = .int .i64 kk ∧ wr = w.drewN q ∧ Aside0 (∀ j, j < kk → p (l.getD j 0) = false))
  case atStart => exact ⟨0, 0, Nat.zero_le _, by omega, rfl, rfl, ⟨fun j hj => absurd hj (Nat.not_lt_zero _)⟩⟩
  case round =>
    obtain ⟨kk, q, hkk, hg, rfl, rfl, M⟩ := hrel
    by_cases hlt : kk < l.length
    · have hltz : (kk : Int) < (l.length : Int) := by omega
      obtain ⟨ad, e1, hx⟩ := Kd.at_int (Kd.C_drewN HR.out q) kk (by omega) hltz
      cases e1
      have hx' : (w.drewN q).cell? (ad.add kk) = some (.int .i64 (l.getD kk 0)) := hx
      clear hx
      have hcall := HP.out (l.getD kk 0) (by rw [List.getD_eq_getElem?_getD, List.getElem?_eq_getElem hlt]; simp)
      generalize hy : l.getD kk 0 = y at hx' hcall
      have B := Aside0.mk hy
      clear hy
      cases hq : p y with
      | true =>
        rw [hq] at hcall
        go_wp2_with (go_at_fn g; refine (hcall _).mono ?_; rintro e w' ⟨rfl, ⟨q', rfl⟩⟩)
        go_ret
        refine ⟨?_, ⟨⟨_, rfl⟩⟩⟩
        rw [fidx_hit p l 0 kk hlt M.out (by rw [B.out]; exact hq), Nat.zero_add]
        rfl
      | false =>
        rw [hq] at hcall
        go_wp2_with (go_at_fn g; refine (hcall _).mono ?_; rintro e w' ⟨rfl, ⟨q', rfl⟩⟩)
        go_roundg (l.length - (kk + 1))
        case measure => omega
        case rel =>
          refine ⟨kk + 1, _, by omega, by omega, by go_num, rfl, ⟨fun j hj => ?_⟩⟩
          by_cases e : j = kk
          · subst e
            rw [B.out]; exact hq
          · exact M.out j (by omega)
    · have hltz : ¬ (kk : Int) < (l.length : Int) := by omega
      have hk : kk = l.length := by omega
      have HK := Aside0.mk hk
      clear hk
      go_wp2
      go_ret
      refine ⟨?_, ⟨⟨q, rfl⟩⟩⟩
      rw [fidx_miss p l 0 (by rw [← HK.out]; exact M.out)]
      rfl

set_option maxHeartbeats 1000000 in
theorem ContainsFunc_any (p : Int → Bool) (g : Nat) (lb : Array Value) (eg : ∀ args w, (callFunc g args).run Try.prog w = .ok (.enter g args) w) (A : Option Addr) (c : Nat) (l : List Int) (w : World)
    (hp : ∀ (x : Int), x ∈ l → ∀ (q : Nat), Calls Try.prog g (#[.int .i64 x] ++ lb) (w.drewN q) fun e w' => e = .returned (.bool (p x)) ∧ Drawn0 (w.drewN q) w')
    (hr : Kd.C (Kd.int .i64) w A l.length l) (hc : l.length ≤ c) :
    Calls Try.prog 64 #[.slice A l.length c, .func (.func g) #[] lb] w fun e w' => e = .returned (.bool (l.any p)) ∧ Drawn0 w w' := by
  have H := IndexFunc_any p g lb eg A c l w hp hr hc
  have B := Aside0.mk (fidx_any p l 0)
  clear hp hr hc
  generalize fidx p 0 l = r at H B
  generalize l.any p = b at B ⊢
  go_enter Try.func64, Try.ntmps64
  go_wp2_with (go_at_call 82; refine H.mono ?_; rintro e w' ⟨rfl, ⟨q, rfl⟩⟩)
  go_ret
  exact ⟨by rw [← B.out]; rfl, ⟨⟨_, rfl⟩⟩⟩


/-- A test on a number in a range, as the closures ask it. -/
theorem areLabels1 (x : Int) (w : World) : Calls Try.prog 80 #[.int .i64 x] w fun e w' => e = .returned (.bool (!(decide (0 ≤ x) && decide (x ≤ 2)))) ∧ Drawn0 w w' := by
  by_cases h1 : 0 ≤ x <;> by_cases h2 : x ≤ 2
  all_goals
    go_enter Try.func80, Try.ntmps80
    go_wp2
    all_goals first | (exfalso; omega) | (go_ret; exact ⟨by simp [h1, h2], Drawn0.refl _⟩)

def inRange (a b c : Int) : Bool := decide (b ≤ a) && decide (a ≤ c)
def impl_areLabels.f (a0 : Int) (l1 : List Int) : Option Bool := (impl_isSide.f a0).bind fun s => (impl_many.f a0).bind fun m => some (s && (((l1.length : Int) == m) && l1.all fun x => inRange x 0 2))

theorem all_any (l : List Int) : (l.all fun x => inRange x 0 2) = !(l.any fun x => !(decide (0 ≤ x) && decide (x ≤ 2))) :=
  List.all_eq_not_any_not

set_option maxHeartbeats 1000000 in
theorem impl_areLabels.calls (a0 : Int) (A1 : Option Addr) (c1 : Nat) (l1 : List Int) (r : Bool) (w : World) (hr1 : Kd.C (Kd.int .i64) w A1 l1.length l1) (hc1 : l1.length ≤ c1) (h : impl_areLabels.f a0 l1 = some r) :
    Calls Try.prog 60 #[.int .i64 a0, .slice A1 l1.length c1] w fun e w' => e = .returned (.bool r) ∧ Drawn0 w w' := by
  have hcon := fun q => ContainsFunc_any (fun x => !(decide (0 ≤ x) && decide (x ≤ 2))) 80 #[] (enters_of Try.func80 (by kernel_rfl) rfl) A1 c1 l1 (w.drewN q) (fun x _ q => areLabels1 x _) (Kd.C_drewN hr1 q) hc1
  clear hr1 hc1
  simp only [impl_areLabels.f, all_any] at h
  generalize (l1.any fun x => !(decide (0 ≤ x) && decide (x ≤ 2))) = b at hcon h
  obtain ⟨s, hs, h⟩ := Option.bind_eq_some_iff.mp h
  obtain ⟨m, hm, h⟩ := Option.bind_eq_some_iff.mp h
  have HS := Aside0.mk hs
  have HM := Aside0.mk hm
  have HC := Aside0.mk hcon
  obtain rfl := Option.some.inj h
  clear h hs hm hcon
  cases s with
  | false =>
    go_enter Try.func60, Try.ntmps60
    go_wp2_with (go_at_call 63; refine (impl_isSide.calls _ _ _ HS.out).mono ?_; rintro e w' ⟨rfl, ⟨q, rfl⟩⟩)
    go_ret
    exact ⟨by simp, ⟨⟨_, rfl⟩⟩⟩
  | true =>
    by_cases hl : (l1.length : Int) = m
    · have e1 : ((l1.length : Int) == m) = true := beq_iff_eq.mpr hl
      have e2 : ((l1.length : Int) != m) = false := bne_eq_false_iff_eq.mpr hl
      clear hl
      go_enter Try.func60, Try.ntmps60
      go_wp2_with (first | (go_at_call 63; refine (impl_isSide.calls _ _ _ HS.out).mono ?_; rintro e w' ⟨rfl, ⟨q, rfl⟩⟩) | (go_at_call 67; refine (impl_many.calls _ _ _ HM.out).mono ?_; rintro e w' ⟨rfl, ⟨q, rfl⟩⟩) | (go_at_call 64; refine (HC.out _).mono ?_; rintro e w' ⟨rfl, ⟨q, rfl⟩⟩))
      go_ret
      exact ⟨by simp [e1], ⟨⟨_, rfl⟩⟩⟩
    · have e1 : ((l1.length : Int) == m) = false := beq_eq_false_iff_ne.mpr hl
      have e2 : ((l1.length : Int) != m) = true := bne_iff_ne.mpr hl
      clear hl
      go_enter Try.func60, Try.ntmps60
      go_wp2_with (first | (go_at_call 63; refine (impl_isSide.calls _ _ _ HS.out).mono ?_; rintro e w' ⟨rfl, ⟨q, rfl⟩⟩) | (go_at_call 67; refine (impl_many.calls _ _ _ HM.out).mono ?_; rintro e w' ⟨rfl, ⟨q, rfl⟩⟩))
      go_ret
      exact ⟨by simp [e1], ⟨⟨_, rfl⟩⟩⟩

/-! impl.near: three rounds over the places of two arrays -/
def nearP (a b c : Int) : Nat → Int
  | 0 => a
  | 1 => b
  | _ => c
def nearD (p q : Nat → Int) (k : Nat) : Int := max (wrap64 (p k - q k)) (wrap64 (q k - p k))
def nearS (p q : Nat → Int) : Nat → Int
  | 0 => 0
  | k + 1 => wrap64 (nearS p q k + nearD p q k)
def nearM (p q : Nat → Int) : Nat → Int
  | 0 => 0
  | k + 1 => max (nearM p q k) (nearD p q k)
def impl_near.f (p0 p1 p2 q0 q1 q2 : Int) : Option Bool :=
  some ((nearS (nearP p0 p1 p2) (nearP q0 q1 q2) 3 == 2) && (nearM (nearP p0 p1 p2) (nearP q0 q1 q2) 3 == 1))

set_option maxHeartbeats 2000000 in
theorem impl_near.calls (a0_0 a0_1 a0_2 a1_0 a1_1 a1_2 : Int) (r : Bool) (w : World) (h : impl_near.f a0_0 a0_1 a0_2 a1_0 a1_1 a1_2 = some r) :
    Calls Try.prog 42 #[.agg #[.int .i64 a0_0, .int .i64 a0_1, .int .i64 a0_2], .agg #[.int .i64 a1_0, .int .i64 a1_1, .int .i64 a1_2]] w fun e w' => e = .returned (.bool r) ∧ Below w.heap.size w w' := by
  have HF := Aside0.mk h
  clear h
  have hu := Try.underlying52
  go_enter Try.func42, Try.ntmps42
  go_wp2
  have hp : ∀ k, k < 3 → ((w.alloc (.cells #[.int .i64 a0_0, .int .i64 a0_1, .int .i64 a0_2] 52)).alloc (.cells #[.int .i64 a1_0, .int .i64 a1_1, .int .i64 a1_2] 52)).cell? ⟨w.heap.size, k, none⟩ = some (.int .i64 (nearP a0_0 a0_1 a0_2 k)) := by
    intro k hk
    obtain rfl | rfl | rfl : k = 0 ∨ k = 1 ∨ k = 2 := by omega
    all_goals go_simp; rfl
  have hq : ∀ k, k < 3 → ((w.alloc (.cells #[.int .i64 a0_0, .int .i64 a0_1, .int .i64 a0_2] 52)).alloc (.cells #[.int .i64 a1_0, .int .i64 a1_1, .int .i64 a1_2] 52)).cell? ⟨w.heap.size + 1, k, none⟩ = some (.int .i64 (nearP a1_0 a1_1 a1_2 k)) := by
    intro k hk
    obtain rfl | rfl | rfl : k = 0 ∨ k = 1 ∨ k = 2 := by omega
    all_goals go_simp; rfl
  have hB : Below w.heap.size w ((w.alloc (.cells #[.int .i64 a0_0, .int .i64 a0_1, .int .i64 a0_2] 52)).alloc (.cells #[.int .i64 a1_0, .int .i64 a1_1, .int .i64 a1_2] 52)) := below_alloc (below_alloc (Below.refl _ _) _) _
  generalize (w.alloc (.cells #[.int .i64 a0_0, .int .i64 a0_1, .int .i64 a0_2] 52)).alloc (.cells #[.int .i64 a1_0, .int .i64 a1_1, .int .i64 a1_2] 52) = W0 at hp hq hB ⊢
  have HP := Aside0.mk hp
  have HQ := Aside0.mk hq
  have HB := Aside0.mk hB
  clear hp hq hB
  unfold impl_near.f at HF
  generalize nearP a0_0 a0_1 a0_2 = P at HP HF
  generalize nearP a1_0 a1_1 a1_2 = Q at HQ HF
  go_loopg [5, 6, 9] 3 (fun gg s5 s6 s9 wr => ∃ kk q : Nat, kk ≤ 3 ∧ 3 - kk ≤ gg ∧ s5 = .int .i64 (nearS P Q kk) ∧ s6 = .int .i64 (nearM P Q kk) ∧ s9 = .int .i64 kk ∧ wr = W0.drewN q)
  case atStart => exact ⟨0, 0, by omega, by omega, rfl, rfl, rfl, rfl⟩
  case round =>
    obtain ⟨kk, q, hkk, hg, rfl, rfl, rfl, rfl⟩ := hrel
    by_cases hlt : kk < 3
    · have hltz : decide ((kk : Int) < 3) = true := by simp; omega
      have h1 := HP.out kk hlt
      have h2 := HQ.out kk hlt
      have b0 : 0 ≤ (kk : Int) := by omega
      have b1 : (kk : Int) < 3 := by omega
      generalize hs : nearS P Q kk = s
      generalize hm : nearM P Q kk = m
      have HS := Aside0.mk hs
      have HM := Aside0.mk hm
      clear hs hm
      generalize hpk : P kk = pk at h1
      generalize hqk : Q kk = qk at h2
      have HPK := Aside0.mk hpk
      have HQK := Aside0.mk hqk
      clear hpk hqk
      go_wp2
      repeat (go_quiet (fail); try go_wp2)
      go_roundg (3 - (kk + 1))
      case measure => omega
      case rel =>
        refine ⟨kk + 1, _, by omega, by omega, ?_, ?_, by go_num, rfl⟩
        · show _ = Value.int .i64 (wrap64 (nearS P Q kk + max (wrap64 (P kk - Q kk)) (wrap64 (Q kk - P kk))))
          rw [HS.out, HPK.out, HQK.out]
        · show _ = Value.int .i64 (max (nearM P Q kk) (max (wrap64 (P kk - Q kk)) (wrap64 (Q kk - P kk))))
          rw [HM.out, HPK.out, HQK.out]
    · have hltz : decide ((kk : Int) < 3) = false := by simp; omega
      obtain rfl : kk = 3 := by omega
      generalize nearS P Q 3 = s at HF
      generalize nearM P Q 3 = m at HF
      cases e1 : (s == 2) with
      | false =>
        rw [e1] at HF
        have e2 : (s != 2) = true := by rw [bne, e1]; rfl
        go_wp2
        go_ret
        refine ⟨?_, pw_below_drewN HB.out _⟩
        have := HF.out
        simp at this
        rw [← this]
        rfl
      | true =>
        rw [e1] at HF
        have e2 : (s != 2) = false := by rw [bne, e1]; rfl
        go_wp2
        go_ret
        refine ⟨?_, pw_below_drewN HB.out _⟩
        have := HF.out
        simp at this
        rw [← this]
        rfl

theorem in_r (a b c : Int) : impl_in.f a b c = some (inRange a b c) := by
  unfold impl_in.f inRange
  by_cases h : b ≤ a <;> simp [h]

/-! impl.isPoint: a closure that captures n -/
theorem isPoint1 (x n m : Int) (B : Nat) (w : World) (hm : impl_many.f n = some m) (hc : w.cell? ⟨B, 0, none⟩ = some (.int .i64 n)) :
    Calls Try.prog 65 #[.int .i64 x, .pointer (some ⟨B, 0, none⟩)] w fun e w' => e = .returned (.bool (!inRange x 0 (wrap64 (m - 1)))) ∧ Drawn0 w w' := by
  have HM := Aside0.mk hm
  clear hm
  generalize hb : inRange x 0 (wrap64 (m - 1)) = b
  have HI := Aside0.mk (in_r x 0 (wrap64 (m - 1)))
  rw [hb] at HI
  clear hb
  go_enter Try.func65, Try.ntmps65
  go_wp2_with (first | (go_at_call 67; refine (impl_many.calls _ _ _ HM.out).mono ?_; rintro e w' ⟨rfl, ⟨q, rfl⟩⟩) | (go_at_call 66; refine (impl_in.calls _ _ _ _ _ HI.out).mono ?_; rintro e w' ⟨rfl, ⟨q, rfl⟩⟩))
  go_ret
  exact ⟨rfl, ⟨⟨_, rfl⟩⟩⟩

def impl_isPoint.f (a0 : Int) (l1 : List Int) : Option Bool := (impl_isSide.f a0).bind fun s => (impl_many.f a0).bind fun m => some (s && l1.all fun x => inRange x 0 (wrap64 (m - 1)))

set_option maxHeartbeats 1000000 in
theorem impl_isPoint.calls (a0 : Int) (A1 : Option Addr) (c1 : Nat) (l1 : List Int) (r : Bool) (w : World) (hr1 : Kd.C (Kd.int .i64) w A1 l1.length l1) (hc1 : l1.length ≤ c1) (h : impl_isPoint.f a0 l1 = some r) :
    Calls Try.prog 40 #[.int .i64 a0, .slice A1 l1.length c1] w fun e w' => e = .returned (.bool r) ∧ Below w.heap.size w w' := by
  obtain ⟨s, hs, h⟩ := Option.bind_eq_some_iff.mp h
  obtain ⟨m, hm, h⟩ := Option.bind_eq_some_iff.mp h
  have hcon := fun q => ContainsFunc_any (fun x => !inRange x 0 (wrap64 (m - 1))) 65 #[.pointer (some ⟨w.heap.size, 0, none⟩)] (enters_of Try.func65 (by kernel_rfl) rfl) A1 c1 l1 ((w.alloc (.cells #[.int .i64 a0] 3)).drewN q) (fun x _ q' => isPoint1 x a0 m w.heap.size _ hm (by go_simp)) (Kd.C_drewN (Kd.C_alloc hr1 _) q) hc1
  clear hr1 hc1
  rw [List.all_eq_not_any_not] at h
  generalize (l1.any fun x => !inRange x 0 (wrap64 (m - 1))) = b at hcon h
  have HS := Aside0.mk hs
  have HC := Aside0.mk hcon
  obtain rfl := Option.some.inj h
  clear h hs hm hcon
  cases s with
  | false =>
    go_enter Try.func40, Try.ntmps40
    go_wp2_with (go_at_call 63; refine (impl_isSide.calls _ _ _ HS.out).mono ?_; rintro e w' ⟨rfl, ⟨q, rfl⟩⟩)
    go_ret
    exact ⟨by simp, pw_below_drewN (below_alloc (Below.refl _ _) _) _⟩
  | true =>
    go_enter Try.func40, Try.ntmps40
    go_wp2_with (first | (go_at_call 63; refine (impl_isSide.calls _ _ _ HS.out).mono ?_; rintro e w' ⟨rfl, ⟨q, rfl⟩⟩) | (go_at_call 64; refine (HC.out _).mono ?_; rintro e w' ⟨rfl, ⟨q, rfl⟩⟩))
    go_ret
    exact ⟨by simp, pw_below_drewN (below_alloc (Below.refl _ _) _) _⟩
end Go.Proofs.Ytcnplmajlanmdaa.Given
