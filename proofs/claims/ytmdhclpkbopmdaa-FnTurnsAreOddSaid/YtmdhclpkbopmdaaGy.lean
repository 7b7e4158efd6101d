/- impl.squareDoors by hand (DeleteFunc with a closure over the labels); for all slices that read as lists. -/
import Derived.Test.YtmdhclpkbopmdaaGx
import Derived.Test.YtmdhclpkbopmdaaQx5
import Derived.Lib.Walk
import Derived.Shelf.Abstract
import Derived.Outline
namespace Go.Proofs.Ytmdhclpkbopmdaa.Given
open Go.Proofs.Ytmdhclpkbopmdaa.Q Go.RowKit Go.Proofs.YtmdhclpkbopmdaaW.PrintWords Go.Proofs.YtmdhclpkbopmdaaW.PrintLast Go.Proofs.YtmdhclpkbopmdaaW.PrintMore
set_option linter.unusedVariables false
set_option linter.unusedSimpArgs false

def sdoor (a b : Int) : Bool := (wrap64 (a + b) == 3) && (wrap64 (a * b) == 2)
theorem signDoor_calls (a b : Int) (w : World) : Calls Try.prog 111 #[.int .i64 a, .int .i64 b] w fun e w' => e = .returned (.bool (sdoor a b)) ∧ Drawn0 w w' := by
  unfold sdoor
  cases h : (wrap64 (a + b) == 3) with
  | true =>
    have H : (IntKind.i64.wrap (a + b) == 3) = true := by rw [IntWalk.i64_left]; exact h
    go_enter Try.func111, Try.ntmps111
    go_wp2
    go_ret
    exact ⟨by simp [IntWalk.i64_left], Drawn0.refl _⟩
  | false =>
    have H : (IntKind.i64.wrap (a + b) == 3) = false := by rw [IntWalk.i64_left]; exact h
    go_enter Try.func111, Try.ntmps111
    go_wp2
    go_ret
    exact ⟨by simp [IntWalk.i64_left], Drawn0.refl _⟩

set_option maxHeartbeats 2000000 in
theorem squareDoors1 (l x : List Int) (A0 A1 : Option Addr) (c0 c1 B : Nat) (w : World) (hx : Kd.C (Kd.int .i64) w A0 x.length x) (hl : Kd.C (Kd.int .i64) w A1 l.length l) (hc1 : l.length ≤ c1)
    (hb : w.cell? ⟨B, 0, none⟩ = some (.slice A1 l.length c1)) (h2 : x.length = 2) (p0 : 0 ≤ rd x 0) (q0 : rd x 0 < (l.length : Int)) (p1 : 0 ≤ rd x 1) (q1 : rd x 1 < (l.length : Int)) :
    Calls Try.prog 110 #[.slice A0 x.length c0, .pointer (some ⟨B, 0, none⟩)] w fun e w' => e = .returned (.bool (!(sdoor (rd l (rd x 0)) (rd l (rd x 1))))) ∧ Drawn0 w w' := by
  obtain ⟨ad, e1, x0⟩ := Kd.at_int hx 0 (by omega) (by omega)
  cases e1
  obtain ⟨ad', e1, x1⟩ := Kd.at_int hx 1 (by omega) (by omega)
  cases e1
  obtain ⟨al, e1, l0⟩ := Kd.at_int hl _ p0 q0
  cases e1
  obtain ⟨al', e1, l1⟩ := Kd.at_int hl _ p1 q1
  cases e1
  have hm := Kd.C_max hl
  simp [Addr.add] at x0 x1
  have hx2 : (0 : Int) < (x.length : Int) := by omega
  have hx3 : (1 : Int) < (x.length : Int) := by omega
  have HL := Aside0.mk hl
  have HX := Aside0.mk hx
  clear hl hx
  generalize rd l (rd x 0) = y0 at l0 ⊢
  generalize rd l (rd x 1) = y1 at l1 ⊢
  generalize rd x 0 = i0 at x0 l0 p0 q0
  generalize rd x 1 = i1 at x1 l1 p1 q1
  go_enter Try.func110, Try.ntmps110
  go_wp2
  repeat (go_quiet (first | (go_at_call 111; refine (signDoor_calls _ _ _).mono ?_; rintro e w' ⟨rfl, ⟨q', rfl⟩⟩; first | exact ⟨rfl, _, World.drewN_drewN _ _ _⟩ | exact ⟨rfl, _, Eq.trans (World.drewN_drewN _ _ _) (congrArg (World.drewN _) (Nat.add_assoc _ _ _))⟩)); try go_wp2)
  go_ret
  exact ⟨rfl, ⟨⟨_, rfl⟩⟩⟩

/-- What the closure strikes. -/
def dropD (l x : List Int) : Bool := !(sdoor (rd l (rd x 0)) (rd l (rd x 1)))
def stepIn (l x : List Int) : Prop := x.length = 2 ∧ (0 ≤ rd x 0 ∧ rd x 0 < (l.length : Int)) ∧ 0 ≤ rd x 1 ∧ rd x 1 < (l.length : Int)
instance (l x : List Int) : Decidable (stepIn l x) := by unfold stepIn; exact inferInstance
def impl_squareDoors.f (k : Nat) (a0 : Int) (l1 : List Int) : Option (List (List Int)) := (impl_square_steps.f k a0).bind fun st => if 0 < st.length ∧ ∀ x ∈ st, stepIn l1 x then some (st.filter fun x => !(dropD l1 x)) else none
theorem impl_squareDoors.mono : ∀ a0 a1 k, LeO (impl_squareDoors.f k a0 a1) (impl_squareDoors.f (k + 1) a0 a1) := by
  intro a0 a1 k
  unfold impl_squareDoors.f
  exact LeO.bind (impl_square_steps.mono _ _) (fun _ => LeO.refl _)

set_option maxHeartbeats 4000000 in
set_option maxRecDepth 100000 in
theorem impl_squareDoors.calls (k : Nat) (a0 : Int) (A1 : Option Addr) (c1 : Nat) (l1 : List Int) (r : List (List Int)) (w : World) (hr1 : Kd.C (Kd.int .i64) w A1 l1.length l1) (hc1 : l1.length ≤ c1) (h : impl_squareDoors.f k a0 l1 = some r) :
    Calls Try.prog 86 #[.int .i64 a0, .slice A1 l1.length c1] w fun e w' => ∃ v0_ : Value, e = .returned (v0_) ∧ Kd.S (Kd.slice 3 (Kd.int .i64)) 32 w' w.heap.size (fun _ => True) v0_ r ∧ Below w.heap.size w w' := by
  obtain ⟨st, hst, h⟩ := Option.bind_eq_some_iff.mp h
  by_cases hx : 0 < st.length ∧ ∀ x ∈ st, stepIn l1 x
  case neg => rw [if_neg hx] at h; cases h
  rw [if_pos hx] at h
  obtain rfl := Option.some.inj h
  obtain ⟨hx0, hx1⟩ := hx
  have HST := Aside0.mk hst
  have HX0 := Aside0.mk hx0
  have HX1 := Aside0.mk hx1
  have HL := Aside0.mk hr1
  have HC := Aside0.mk hc1
  have BX := Aside0.mk (below_alloc (Below.refl w.heap.size w) (.cells #[.slice A1 l1.length c1] 32))
  have CX := Aside0.mk (show (w.alloc (.cells #[.slice A1 l1.length c1] 32)).cell? ⟨w.heap.size, 0, none⟩ = some (.slice A1 l1.length c1) by go_simp)
  have SX := Aside0.mk (show w.heap.size < (w.alloc (.cells #[.slice A1 l1.length c1] 32)).heap.size by simp)
  clear hst hx0 hx1 hr1 hc1 h
  generalize hfr : (st.filter fun x => !(dropD l1 x)) = r
  have HFR := Aside0.mk hfr
  clear hfr
  go_enter Try.func86, Try.ntmps86
  go_wp2_with fail
  generalize (w.alloc (.cells #[.slice A1 l1.length c1] 32)) = w1 at BX CX SX ⊢
  refine (impl_square_steps.calls k a0 st _ HST.out).mono ?_
  rintro e w2 ⟨v, rfl, RS, B2⟩
  have RS := Aside0.mk RS
  have B2 := Aside0.mk B2
  have HDF := Aside0.mk (DeleteFunc_S (dropD l1) 110 #[.pointer (some ⟨w.heap.size, 0, none⟩)] (enters_of Try.func110 (by kernel_rfl) rfl) RS.out HX0.out (fun x hx A0 c0 W' hB hC hc => by
    obtain ⟨h2, ⟨p0, q0⟩, p1, q1⟩ := HX1.out x hx
    have B3 := B2.out.trans hB
    have hcell : W'.cell? ⟨w.heap.size, 0, none⟩ = some (.slice A1 l1.length c1) := (B3.cell SX.out).trans CX.out
    exact squareDoors1 l1 x A0 A1 c0 c1 w.heap.size W' hC (Kd.C_below HL.out (BX.out.trans (B3.mono BX.out.size))) HC.out hcell h2 p0 q0 p1 q1))
  go_wp2_with fail
  refine HDF.out.mono ?_
  rintro e w3 ⟨v', rfl, RS', B3⟩
  have RS' := Aside0.mk RS'
  have B3 := Aside0.mk (BX.out.trans ((B2.out.trans B3).mono BX.out.size))
  go_wp2
  go_ret
  exact ⟨_, rfl, by rw [← HFR.out]; exact Kd.S_lower RS'.out BX.out.size, B3.out⟩
end Go.Proofs.Ytmdhclpkbopmdaa.Given
