/- impl.areLists by hand: the library's ContainsFunc and IndexFunc over lists of ints, with a member's closure in which there is another closure; for all arguments, slices read as lists. -/
import Derived.Test.YtmdhclpkbopmdaaGa
import Derived.Test.YtmdhclpkbopmdaaQx2
import Derived.Outline
import Derived.Lib.Walk
import Derived.Shelf.Abstract
namespace Go.Proofs.Ytmdhclpkbopmdaa.Given
open Go.Proofs.Ytmdhclpkbopmdaa.Q Go.RowKit Go.Proofs.YtmdhclpkbopmdaaW.PrintWords Go.Proofs.YtmdhclpkbopmdaaW.PrintLast Go.Proofs.YtmdhclpkbopmdaaW.PrintMore
set_option linter.unusedVariables false
set_option linter.unusedSimpArgs false

/-- The place of the first list at which p holds, or -1. -/
def fidxL (p : List Int → Bool) : Nat → List (List Int) → Int
  | _, [] => -1
  | i, x :: xs => if p x then (i : Int) else fidxL p (i + 1) xs

theorem fidxL_hit (p : List Int → Bool) (l : List (List Int)) : ∀ (i k : Nat), k < l.length → (∀ j, j < k → p (l.getD j []) = false) → p (l.getD k []) = true → fidxL p i l = ((i + k : Nat) : Int) := by
  induction l with
  | nil => intro i k h; simp at h
  | cons x xs ih =>
    intro i k hk hm hh
    cases k with
    | zero => simp only [fidxL]; rw [if_pos (by simpa using hh)]; simp
    | succ k =>
      have h0 : p x = false := by simpa using hm 0 (by omega)
      simp only [fidxL]
      rw [if_neg (by simp [h0])]
      rw [ih (i + 1) k (by simpa using hk) (fun j hj => by simpa using hm (j + 1) (by omega)) (by simpa using hh)]
      congr 1; omega

theorem fidxL_miss (p : List Int → Bool) (l : List (List Int)) : ∀ (i : Nat), (∀ j, j < l.length → p (l.getD j []) = false) → fidxL p i l = -1 := by
  induction l with
  | nil => intro i _; rfl
  | cons x xs ih =>
    intro i hm
    have h0 : p x = false := by simpa using hm 0 (by simp)
    simp only [fidxL]
    rw [if_neg (by simp [h0])]
    exact ih (i + 1) (fun j hj => by simpa using hm (j + 1) (by simpa using hj))

theorem fidxL_any (p : List Int → Bool) (l : List (List Int)) : ∀ (i : Nat), decide (fidxL p i l ≥ 0) = l.any p := by
  induction l with
  | nil => intro i; rfl
  | cons x xs ih =>
    intro i
    simp only [fidxL, List.any_cons]
    by_cases h : p x = true
    · simp [h]
    · have h' : p x = false := by simpa using h
      simp [h', ih]

set_option maxHeartbeats 2000000 in
theorem IndexFuncL_any (p : List Int → Bool) (g : Nat) (lb : Array Value) (eg : ∀ args w, (callFunc g args).run Try.prog w = .ok (.enter g args) w) (A : Option Addr) (c : Nat) (l : List (List Int)) (w : World)
    (hp : ∀ (x : List Int) (A0 : Option Addr) (c0 : Nat) (q : Nat), Kd.C (Kd.int .i64) (w.drewN q) A0 x.length x → x.length ≤ c0 → Calls Try.prog g (#[.slice A0 x.length c0] ++ lb) (w.drewN q) fun e w' => e = .returned (.bool (p x)) ∧ Drawn0 (w.drewN q) w')
    (hr : Kd.C (Kd.slice 3 (Kd.int .i64)) w A l.length l) (hc : l.length ≤ c) :
    Calls Try.prog 118 #[.slice A l.length c, .func (.func g) #[] lb] w fun e w' => e = .returned (.int .i64 (fidxL p 0 l)) ∧ Drawn0 w w' := by
  have HR := Aside0.mk hr
  have HC := Aside0.mk hc
  have HP := Aside0.mk hp
  have hm : l.length ≤ 9223372036854775807 := Kd.C_max hr
  clear hr hc hp
  go_enter Try.func118, Try.ntmps118
  go_wp2
  go_loopg [5, 8] l.length (fun gg _ s8 wr => ∃ kk q : Nat, kk ≤ l.length ∧ l.length - kk ≤ gg ∧ s8 = .int .i64 kk ∧ wr = w.drewN q ∧ Aside0 (∀ j, j < kk → p (l.getD j []) = false))
  case atStart => exact ⟨0, 0, Nat.zero_le _, by omega, rfl, rfl, ⟨fun j hj => absurd hj (Nat.not_lt_zero _)⟩⟩
  case round =>
    obtain ⟨kk, q, hkk, hg, rfl, rfl, M⟩ := hrel
    by_cases hlt : kk < l.length
    · have hltz : (kk : Int) < (l.length : Int) := by omega
      obtain ⟨ad, A0, c0, e1, hx, hl0, hC0⟩ := at_L1 (Kd.C_drewN HR.out q) kk (by omega) hltz
      cases e1
      have hx' : (w.drewN q).cell? (ad.add kk) = some (.slice A0 (rd_L1 l kk).length c0) := hx
      clear hx
      have hy : rd_L1 l kk = l.getD kk [] := by unfold rd_L1; rw [Int.toNat_natCast]
      rw [hy] at hx' hl0 hC0
      clear hy
      have hcall := HP.out (l.getD kk []) A0 c0 q hC0 hl0
      generalize hy : l.getD kk [] = y at hx' hcall hl0 hC0
      have B := Aside0.mk hy
      have HC0 := Aside0.mk hC0
      clear hy hC0 hl0
      cases hq : p y with
      | true =>
        rw [hq] at hcall
        go_wp2_with (go_at_fn g; refine hcall.mono ?_; rintro e w' ⟨rfl, ⟨q', rfl⟩⟩)
        go_ret
        refine ⟨?_, ⟨⟨_, rfl⟩⟩⟩
        rw [fidxL_hit p l 0 kk hlt M.out (by rw [B.out]; exact hq), Nat.zero_add]
        rfl
      | false =>
        rw [hq] at hcall
        go_wp2_with (go_at_fn g; refine hcall.mono ?_; rintro e w' ⟨rfl, ⟨q', rfl⟩⟩)
        go_roundg (l.length - (kk + 1))
        case measure => omega
        case rel =>
          refine ⟨kk + 1, _, by omega, by omega, by go_num, rfl, ⟨fun j hj => ?_⟩⟩
          by_cases e : j = kk
          · subst e
            rw [B.out]; exact hq
          · exact M.out j (by omega)
    · have hltz : ¬ (kk : Int) < (l.length : Int) := by omega
      have hk : kk = l.length := by omega
      have HK := Aside0.mk hk
      clear hk
      go_wp2
      go_ret
      refine ⟨?_, ⟨⟨q, rfl⟩⟩⟩
      rw [fidxL_miss p l 0 (by rw [← HK.out]; exact M.out)]
      rfl

set_option maxHeartbeats 1000000 in
theorem ContainsFuncL_any (p : List Int → Bool) (g : Nat) (lb : Array Value) (eg : ∀ args w, (callFunc g args).run Try.prog w = .ok (.enter g args) w) (A : Option Addr) (c : Nat) (l : List (List Int)) (w : World)
    (hp : ∀ (x : List Int) (A0 : Option Addr) (c0 : Nat) (q : Nat), Kd.C (Kd.int .i64) (w.drewN q) A0 x.length x → x.length ≤ c0 → Calls Try.prog g (#[.slice A0 x.length c0] ++ lb) (w.drewN q) fun e w' => e = .returned (.bool (p x)) ∧ Drawn0 (w.drewN q) w')
    (hr : Kd.C (Kd.slice 3 (Kd.int .i64)) w A l.length l) (hc : l.length ≤ c) :
    Calls Try.prog 115 #[.slice A l.length c, .func (.func g) #[] lb] w fun e w' => e = .returned (.bool (l.any p)) ∧ Drawn0 w w' := by
  have H := IndexFuncL_any p g lb eg A c l w hp hr hc
  have B := Aside0.mk (fidxL_any p l 0)
  clear hp hr hc
  generalize fidxL p 0 l = r at H B
  generalize l.any p = b at B ⊢
  go_enter Try.func115, Try.ntmps115
  go_wp2_with (go_at_call 118; refine H.mono ?_; rintro e w' ⟨rfl, ⟨q, rfl⟩⟩)
  go_ret
  exact ⟨by rw [← B.out]; rfl, ⟨⟨_, rfl⟩⟩⟩

theorem in_rg (a b c : Int) : impl_in.f a b c = some (inRange a b c) := by
  unfold impl_in.f inRange
  by_cases h : b ≤ a <;> simp [h]

theorem areLists11 (x most : Int) (B : Nat) (w : World) (hc : w.cell? ⟨B, 0, none⟩ = some (.int .i64 most)) :
    Calls Try.prog 117 #[.int .i64 x, .pointer (some ⟨B, 0, none⟩)] w fun e w' => e = .returned (.bool (!inRange x 0 most)) ∧ Drawn0 w w' := by
  generalize hb : inRange x 0 most = b
  have HI := Aside0.mk (in_rg x 0 most)
  rw [hb] at HI
  clear hb
  go_enter Try.func117, Try.ntmps117
  go_wp2_with (go_at_call 88; refine (impl_in.calls _ _ _ _ _ HI.out).mono ?_; rintro e w' ⟨rfl, ⟨q, rfl⟩⟩)
  go_ret
  exact ⟨rfl, ⟨⟨_, rfl⟩⟩⟩

def rowP (many most : Int) (own : List Int) : Bool := ((own.length : Int) != many) || own.any fun x => !inRange x 0 most

set_option maxHeartbeats 1000000 in
theorem areLists1 (many most : Int) (own : List Int) (A0 : Option Addr) (c0 : Nat) (B1 B2 : Nat) (w : World) (h1 : ∀ q, (w.drewN q).cell? ⟨B1, 0, none⟩ = some (.int .i64 many)) (h2 : ∀ q, (w.drewN q).cell? ⟨B2, 0, none⟩ = some (.int .i64 most))
    (hr : Kd.C (Kd.int .i64) w A0 own.length own) (hc : own.length ≤ c0) :
    Calls Try.prog 116 #[.slice A0 own.length c0, .pointer (some ⟨B1, 0, none⟩), .pointer (some ⟨B2, 0, none⟩)] w fun e w' => e = .returned (.bool (rowP many most own)) ∧ Drawn0 w w' := by
  have hcon := fun q => ContainsFunc_any (fun x => !inRange x 0 most) 117 #[.pointer (some ⟨B2, 0, none⟩)] (enters_of Try.func117 (by kernel_rfl) rfl) A0 c0 own (w.drewN q) (fun x _ q' => areLists11 x most B2 _ (by rw [World.drewN_drewN]; exact h2 _)) (Kd.C_drewN hr q) hc
  have hm1 : w.cell? ⟨B1, 0, none⟩ = some (.int .i64 many) := h1 0
  have H1 := Aside0.mk h1
  have H2 := Aside0.mk h2
  clear hr hc h1 h2
  unfold rowP
  generalize (own.any fun x => !inRange x 0 most) = b at hcon ⊢
  have hcon0 : Calls Try.prog 100 #[.slice A0 own.length c0, .func (.func 117) #[] #[.pointer (some ⟨B2, 0, none⟩)]] w fun e w' => e = .returned (.bool b) ∧ Drawn0 w w' := hcon 0
  have HC0 := Aside0.mk hcon0
  clear hcon hcon0
  by_cases hl : (own.length : Int) = many
  · have e1 : ((own.length : Int) == many) = true := beq_iff_eq.mpr hl
    have e2 : ((own.length : Int) != many) = false := bne_eq_false_iff_eq.mpr hl
    clear hl
    rw [e2]
    go_enter Try.func116, Try.ntmps116
    go_wp2_with (go_at_call 100; refine HC0.out.mono ?_; rintro e w' ⟨rfl, ⟨q, rfl⟩⟩)
    go_ret
    exact ⟨by simp, ⟨⟨_, rfl⟩⟩⟩
  · have e1 : ((own.length : Int) == many) = false := beq_eq_false_iff_ne.mpr hl
    have e2 : ((own.length : Int) != many) = true := bne_iff_ne.mpr hl
    clear hl
    rw [e2]
    go_enter Try.func116, Try.ntmps116
    go_wp2_with fail
    go_ret
    exact ⟨by simp, Drawn0.refl _⟩

def impl_areLists.f (l0 : List (List Int)) (a1 a2 : Int) : Option Bool := some (((l0.length : Int) == 3) && !(l0.any (rowP a1 a2)))

set_option maxHeartbeats 1000000 in
theorem impl_areLists.calls (A0 : Option Addr) (c0 : Nat) (l0 : List (List Int)) (a1 : Int) (a2 : Int) (r : Bool) (w : World) (hr0 : Kd.C (Kd.slice 3 (Kd.int .i64)) w A0 l0.length l0) (hc0 : l0.length ≤ c0) (h : impl_areLists.f l0 a1 a2 = some r) :
    Calls Try.prog 104 #[.slice A0 l0.length c0, .int .i64 a1, .int .i64 a2] w fun e w' => e = .returned (.bool r) ∧ Below w.heap.size w w' := by
  have hcon := fun q => ContainsFuncL_any (rowP a1 a2) 116 #[.pointer (some ⟨w.heap.size, 0, none⟩), .pointer (some ⟨w.heap.size + 1, 0, none⟩)] (enters_of Try.func116 (by kernel_rfl) rfl) A0 c0 l0 (((w.alloc (.cells #[.int .i64 a1] 3)).alloc (.cells #[.int .i64 a2] 3)).drewN q)
    (fun x A c q' hC hcc => areLists1 a1 a2 x A c w.heap.size (w.heap.size + 1) _ (fun q2 => by go_simp) (fun q2 => by go_simp) hC hcc) (Kd.C_drewN (Kd.C_alloc (Kd.C_alloc hr0 _) _) q) hc0
  clear hr0 hc0
  unfold impl_areLists.f at h
  generalize l0.any (rowP a1 a2) = b at hcon h
  have hcon0 : Calls Try.prog 115 #[.slice A0 l0.length c0, .func (.func 116) #[] #[.pointer (some ⟨w.heap.size, 0, none⟩), .pointer (some ⟨w.heap.size + 1, 0, none⟩)]] ((w.alloc (.cells #[.int .i64 a1] 3)).alloc (.cells #[.int .i64 a2] 3)) fun e w' => e = .returned (.bool b) ∧ Drawn0 ((w.alloc (.cells #[.int .i64 a1] 3)).alloc (.cells #[.int .i64 a2] 3)) w' := hcon 0
  have HC0 := Aside0.mk hcon0
  obtain rfl := Option.some.inj h
  clear h hcon hcon0
  by_cases hl : (l0.length : Int) = 3
  · have e1 : ((l0.length : Int) == 3) = true := beq_iff_eq.mpr hl
    clear hl
    rw [e1]
    go_enter Try.func104, Try.ntmps104
    go_wp2_with (go_at_call 115; refine HC0.out.mono ?_; rintro e w' ⟨rfl, ⟨q, rfl⟩⟩)
    go_ret
    exact ⟨by simp, by repeat (first | exact Below.refl _ _ | apply pw_below_drewN | apply below_alloc)⟩
  · have e1 : ((l0.length : Int) == 3) = false := beq_eq_false_iff_ne.mpr hl
    clear hl
    rw [e1]
    go_enter Try.func104, Try.ntmps104
    go_wp2_with fail
    go_ret
    exact ⟨by simp, by repeat (first | exact Below.refl _ _ | apply pw_below_drewN | apply below_alloc)⟩
end Go.Proofs.Ytmdhclpkbopmdaa.Given
