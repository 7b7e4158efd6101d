/- impl.areOpposite by hand: a closure over the labels and the last number; for all slices that read as lists. -/
import Derived.Test.YtmdhclpkbopmdaaGj
import Derived.Test.YtmdhclpkbopmdaaQx5
import Derived.Lib.Walk
import Derived.Shelf.Abstract
import Derived.Outline
namespace Go.Proofs.Ytmdhclpkbopmdaa.Given
open Go.Proofs.Ytmdhclpkbopmdaa.Q Go.RowKit Go.Proofs.YtmdhclpkbopmdaaW.PrintWords Go.Proofs.YtmdhclpkbopmdaaW.PrintLast Go.Proofs.YtmdhclpkbopmdaaW.PrintMore
set_option linter.unusedVariables false
set_option linter.unusedSimpArgs false

/-- Are the labels of a point and of its opposite one not opposite. -/
def unopM (l : List Int) (m i : Int) : Bool := wrap64 (rd l i + rd l (wrap64 (m - i))) != 0
def unop (l : List Int) (i : Int) : Bool := unopM l ((l.length : Int) - 1) i

set_option maxHeartbeats 1000000 in
theorem areOpposite1 (l : List Int) (m : Int) (A : Option Addr) (c : Nat) (W : World) (b1 b2 : Nat) (hl : Kd.C (Kd.int .i64) W A l.length l) (hc : l.length ≤ c) (h1 : W.cell? ⟨b1, 0, none⟩ = some (.slice A l.length c)) (h2 : W.cell? ⟨b2, 0, none⟩ = some (.int .i64 m))
    (x : Int) (x0 : 0 ≤ x) (x1 : x < (l.length : Int)) (y0 : 0 ≤ wrap64 (m - x)) (y1 : wrap64 (m - x) < (l.length : Int)) :
    Calls Try.prog 106 #[.int .i64 x, .pointer (some ⟨b1, 0, none⟩), .pointer (some ⟨b2, 0, none⟩)] W fun e w' => e = .returned (.bool (unopM l m x)) ∧ Drawn0 W w' := by
  obtain ⟨ad, e1, hx⟩ := Kd.at_int hl x x0 x1
  cases e1
  obtain ⟨ad', e1, hy⟩ := Kd.at_int hl _ y0 y1
  cases e1
  have U := Aside0.mk (show unopM l m x = (wrap64 (rd l x + rd l (wrap64 (m - x))) != 0) from rfl)
  have hm := Kd.C_max hl
  clear hl
  generalize unopM l m x = b at U ⊢
  go_enter Try.func106, Try.ntmps106
  go_wp2
  repeat (go_quiet (fail); try go_wp2)
  go_ret
  exact ⟨by rw [U.out]; rfl, ⟨⟨_, rfl⟩⟩⟩

def impl_areOpposite.f (k : Nat) (a0 : Int) (l1 : List Int) : Option Bool := (impl_areSigns.f a0 l1).bind fun b => if b = true then ((impl_square_border.f k a0).bind fun bd =>
  if ∀ i ∈ bd, (0 ≤ i ∧ i < (l1.length : Int)) ∧ 0 ≤ wrap64 (((l1.length : Int) - 1) - i) ∧ wrap64 (((l1.length : Int) - 1) - i) < (l1.length : Int) then some (!(bd.any (unop l1))) else none) else some false
theorem impl_areOpposite.mono : ∀ a0 a1 k, LeO (impl_areOpposite.f k a0 a1) (impl_areOpposite.f (k + 1) a0 a1) := by
  intro a0 a1 k
  unfold impl_areOpposite.f
  exact LeO.bind (LeO.refl _) (fun _ => LeO.ite (LeO.bind (impl_square_border.mono _ _) (fun _ => LeO.refl _)) (LeO.refl _))

set_option maxHeartbeats 4000000 in
set_option maxRecDepth 100000 in
theorem impl_areOpposite.calls (k : Nat) (a0 : Int) (A1 : Option Addr) (c1 : Nat) (l1 : List Int) (r : Bool) (w : World) (hr1 : Kd.C (Kd.int .i64) w A1 l1.length l1) (hc1 : l1.length ≤ c1) (h : impl_areOpposite.f k a0 l1 = some r) :
    Calls Try.prog 80 #[.int .i64 a0, .slice A1 l1.length c1] w fun e w' => e = .returned (.bool r) ∧ Below w.heap.size w w' := by
  obtain ⟨b, hb, h⟩ := Option.bind_eq_some_iff.mp h
  have HAL := Aside0.mk hb
  clear hb
  have HL := Aside0.mk hr1
  have HC := Aside0.mk hc1
  have hm := Kd.C_max hr1
  clear hr1 hc1
  cases b with
  | false =>
    simp only [Bool.false_eq_true, if_false, Option.some.injEq] at h
    subst h
    go_enter Try.func80, Try.ntmps80
    go_wp2_with fail
    refine (impl_areSigns.calls _ _ _ l1 _ _ (Kd.C_alloc HL.out _) HC.out HAL.out).mono ?_
    rintro e w1 ⟨rfl, ⟨q, rfl⟩⟩
    go_wp2_with fail
    go_ret
    exact ⟨rfl, by repeat (first | exact Below.refl _ _ | apply pw_below_drewN | apply below_alloc)⟩
  | true =>
    simp only [if_true] at h
    obtain ⟨bd, hbd, h⟩ := Option.bind_eq_some_iff.mp h
    have HBD := Aside0.mk hbd
    clear hbd
    by_cases hx : ∀ i ∈ bd, (0 ≤ i ∧ i < (l1.length : Int)) ∧ 0 ≤ wrap64 (((l1.length : Int) - 1) - i) ∧ wrap64 (((l1.length : Int) - 1) - i) < (l1.length : Int)
    case neg => rw [if_neg hx] at h; cases h
    rw [if_pos hx] at h
    obtain rfl := Option.some.inj h
    have HX := Aside0.mk hx
    clear hx h
    obtain ⟨r, hr⟩ : ∃ r, bd.any (unop l1) = r := ⟨_, rfl⟩
    rw [hr]
    have R := Aside0.mk hr
    clear hr
    go_enter Try.func80, Try.ntmps80
    go_wp2_with fail
    refine (impl_areSigns.calls _ _ _ l1 _ _ (Kd.C_alloc HL.out _) HC.out HAL.out).mono ?_
    rintro e w1 ⟨rfl, ⟨q, rfl⟩⟩
    have hc0 : ((w.alloc (.cells #[.slice A1 l1.length c1] 32)).drewN q).cell? ⟨w.heap.size, 0, none⟩ = some (.slice A1 l1.length c1) := by go_simp
    go_wp2_with fail
    have B1 := Aside0.mk (show Below w.heap.size w (((w.alloc (.cells #[.slice A1 l1.length c1] 32)).drewN q).alloc (.cells #[.int .i64 ((l1.length : Int) - 1)] 3)) by repeat (first | exact Below.refl _ _ | apply pw_below_drewN | apply below_alloc))
    have hcA : (((w.alloc (.cells #[.slice A1 l1.length c1] 32)).drewN q).alloc (.cells #[.int .i64 ((l1.length : Int) - 1)] 3)).cell? ⟨w.heap.size, 0, none⟩ = some (.slice A1 l1.length c1) := by go_simp
    have hcB : (((w.alloc (.cells #[.slice A1 l1.length c1] 32)).drewN q).alloc (.cells #[.int .i64 ((l1.length : Int) - 1)] 3)).cell? ⟨w.heap.size + 1, 0, none⟩ = some (.int .i64 ((l1.length : Int) - 1)) := by go_simp
    have hs : w.heap.size + 1 < (((w.alloc (.cells #[.slice A1 l1.length c1] 32)).drewN q).alloc (.cells #[.int .i64 ((l1.length : Int) - 1)] 3)).heap.size := by simp
    generalize (((w.alloc (.cells #[.slice A1 l1.length c1] 32)).drewN q).alloc (.cells #[.int .i64 ((l1.length : Int) - 1)] 3)) = W1 at B1 hcA hcB hs ⊢
    refine (impl_square_border.calls k _ bd _ HBD.out).mono ?_
    rintro e w3 ⟨vb, rfl, RB, B3⟩
    have kA := Aside0.mk ((B3.cell (show w.heap.size < W1.heap.size by omega)).trans hcA)
    have kB := Aside0.mk ((B3.cell (show w.heap.size + 1 < W1.heap.size by omega)).trans hcB)
    have BB := Aside0.mk (B1.out.trans (B3.mono B1.out.size))
    obtain ⟨Ab, cb, rfl⟩ := Kd.R_slice RB
    have RB := Aside0.mk (Kd.R_reads' RB)
    have HL3 := Aside0.mk (Kd.C_below HL.out BB.out)
    clear hcA hcB hs B3
    go_wp2_with fail
    refine (ContainsFunc_any (unop l1) 106 #[.pointer (some ⟨w.heap.size, 0, none⟩), .pointer (some ⟨w.heap.size + 1, 0, none⟩)] (enters_of Try.func106 (by kernel_rfl) rfl) Ab cb bd w3 (fun x hx q => areOpposite1 l1 ((l1.length : Int) - 1) A1 c1 (w3.drewN q) _ _ (Kd.C_drewN HL3.out q) HC.out (by simpa using kA.out) (by simpa using kB.out) x (HX.out x hx).1.1 (HX.out x hx).1.2 (HX.out x hx).2.1 (HX.out x hx).2.2) RB.out.2.2 RB.out.2.1).mono ?_
    rintro e w4 ⟨rfl, ⟨q4, rfl⟩⟩
    rw [R.out]
    go_wp2_with fail
    go_ret
    exact ⟨rfl, pw_below_drewN BB.out _⟩
end Go.Proofs.Ytmdhclpkbopmdaa.Given
