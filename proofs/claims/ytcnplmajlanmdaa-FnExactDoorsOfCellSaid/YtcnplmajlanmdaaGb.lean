/- The library's Index over points ([3]int), by hand: the place of the first element that equals a point, or -1; for all slices that read as lists. -/
import Derived.Test.YtcnplmajlanmdaaQx0
import Derived.Lib.Walk
import Derived.Shelf.Abstract
namespace Go.Proofs.Ytcnplmajlanmdaa.Given
open Go.Proofs.Ytcnplmajlanmdaa.Q Go.RowKit Go.Proofs.YtcnplmajlanmdaaW.PrintWords Go.Proofs.YtcnplmajlanmdaaW.PrintLast Go.Proofs.YtcnplmajlanmdaaW.PrintMore
set_option linter.unusedVariables false
set_option linter.unusedSimpArgs false

/-- '==' of two points. -/
theorem eqP (d : Nat) (w : World) (x0 y0 x1 y1 x2 y2 : Int) :
    (Op.equalIn (d + 2) 52 (.agg #[.int .i64 x0, .int .i64 x1, .int .i64 x2]) (.agg #[.int .i64 y0, .int .i64 y1, .int .i64 y2])).run Try.prog w = .ok (x0 == y0 && (x1 == y1 && (x2 == y2))) w := by
  have hu := Try.underlying52
  have hu3 := Try.underlying3
  unfold Op.equalIn
  simp only [Sem.run_bind, run_underlying hu, Result.andThen_ok]
  go_simp
  have e : List.range' 0 3 = [0, 1, 2] := rfl
  rw [e]
  simp only [List.forIn_cons, List.forIn_nil]
  cases h0 : (x0 == y0) <;> cases h1 : (x1 == y1) <;> cases h2 : (x2 == y2) <;> go_simp

def eqS (a b c : Int) (x : S52) : Bool := a == x.f0 && (b == x.f1 && (c == x.f2))
def gidx {α : Type} (p : α → Bool) : Nat → List α → Int
  | _, [] => -1
  | i, x :: xs => if p x then (i : Int) else gidx p (i + 1) xs
theorem gidx_hit {α : Type} (p : α → Bool) (z : α) (l : List α) : ∀ (i k : Nat), k < l.length → (∀ j, j < k → p (l.getD j z) = false) → p (l.getD k z) = true → gidx p i l = ((i + k : Nat) : Int) := by
  induction l with
  | nil => intro i k h; simp at h
  | cons x xs ih =>
    intro i k hk hm hh
    cases k with
    | zero => simp only [gidx]; rw [if_pos (by simpa using hh)]; simp
    | succ k =>
      have h0 : p x = false := by simpa using hm 0 (by omega)
      simp only [gidx]
      rw [if_neg (by simp [h0])]
      rw [ih (i + 1) k (by simpa using hk) (fun j hj => by simpa using hm (j + 1) (by omega)) (by simpa using hh)]
      congr 1; omega
theorem gidx_miss {α : Type} (p : α → Bool) (z : α) (l : List α) : ∀ (i : Nat), (∀ j, j < l.length → p (l.getD j z) = false) → gidx p i l = -1 := by
  induction l with
  | nil => intro i _; rfl
  | cons x xs ih =>
    intro i hm
    have h0 : p x = false := by simpa using hm 0 (by simp)
    simp only [gidx]
    rw [if_neg (by simp [h0])]
    exact ih (i + 1) (fun j hj => by simpa using hm (j + 1) (by simpa using hj))

def slices_Index_3_int_3_int.f (l0 : List S52) (a b c : Int) : Option Int := some (gidx (eqS a b c) 0 l0)

attribute [local go_sem high] eqP
set_option maxHeartbeats 2000000 in
theorem slices_Index_3_int_3_int.calls (A0 : Option Addr) (c0 : Nat) (l0 : List S52) (a1_0 a1_1 a1_2 : Int) (r : Int) (w : World) (hr0 : Kd.C k52 w A0 l0.length l0) (hc0 : l0.length ≤ c0) (h : slices_Index_3_int_3_int.f l0 a1_0 a1_1 a1_2 = some r) :
    Calls Try.prog 81 #[.slice A0 l0.length c0, .agg #[.int .i64 a1_0, .int .i64 a1_1, .int .i64 a1_2]] w fun e w' => e = .returned (.int .i64 r) ∧ Below w.heap.size w w' := by
  have HF := Aside0.mk h
  have hm : l0.length ≤ 9223372036854775807 := Kd.C_max hr0
  have HR := Aside0.mk (Kd.C_alloc hr0 (.cells #[.int .i64 a1_0, .int .i64 a1_1, .int .i64 a1_2] 52))
  have HC := Aside0.mk hc0
  clear h hr0 hc0
  have hu := Try.underlying52
  go_enter Try.func81, Try.ntmps81
  go_wp2
  have c0 : (w.alloc (.cells #[.int .i64 a1_0, .int .i64 a1_1, .int .i64 a1_2] 52)).cell? ⟨w.heap.size, 0, none⟩ = some (.int .i64 a1_0) := by go_simp
  have c1 : (w.alloc (.cells #[.int .i64 a1_0, .int .i64 a1_1, .int .i64 a1_2] 52)).cell? ⟨w.heap.size, 1, none⟩ = some (.int .i64 a1_1) := by go_simp
  have c2 : (w.alloc (.cells #[.int .i64 a1_0, .int .i64 a1_1, .int .i64 a1_2] 52)).cell? ⟨w.heap.size, 2, none⟩ = some (.int .i64 a1_2) := by go_simp
  have HB := Aside0.mk (below_alloc (Below.refl w.heap.size w) (.cells #[.int .i64 a1_0, .int .i64 a1_1, .int .i64 a1_2] 52))
  generalize (w.alloc (.cells #[.int .i64 a1_0, .int .i64 a1_1, .int .i64 a1_2] 52)) = W0 at c0 c1 c2 HB HR ⊢
  go_loopg [5, 8] l0.length (fun gg _ s8 wr => ∃ kk q : Nat, kk ≤ l0.length ∧ l0.length - kk ≤ gg ∧ s8 = .int .i64 kk ∧ wr = W0.drewN q ∧ Aside0 (∀ j, j < kk → eqS a1_0 a1_1 a1_2 (l0.getD j z52) = false))
  case atStart => exact ⟨0, 0, Nat.zero_le _, by omega, rfl, rfl, ⟨fun j hj => absurd hj (Nat.not_lt_zero _)⟩⟩
  case round =>
    obtain ⟨kk, q, hkk, hg, rfl, rfl, M⟩ := hrel
    by_cases hlt : kk < l0.length
    · have hltz : (kk : Int) < (l0.length : Int) := by omega
      obtain ⟨ad, e1, hx0, hx1, hx2⟩ := at_T52 HR.out kk (by omega) hltz
      cases e1
      have hrd : rd_T52 l0 kk = l0.getD kk z52 := by simp [rd_T52]
      rw [hrd] at hx0 hx1 hx2
      simp only [Int.toNat_natCast] at hx0 hx1 hx2
      clear hrd
      generalize hy : l0.getD kk z52 = y at hx0 hx1 hx2
      have B := Aside0.mk hy
      clear hy
      have pk : 0 ≤ (kk : Int) := by omega
      cases hq : (a1_0 == y.f0 && (a1_1 == y.f1 && (a1_2 == y.f2))) with
      | true =>
        go_wp2
        repeat (go_quiet (fail); try go_wp2)
        go_ret
        refine ⟨?_, by repeat (first | exact HB.out | apply pw_below_drewN)⟩
        have := HF.out
        unfold slices_Index_3_int_3_int.f at this
        rw [gidx_hit _ z52 l0 0 kk hlt M.out (by rw [B.out]; exact hq)] at this
        rw [← Option.some.inj this, Nat.zero_add]
        rfl
      | false =>
        go_wp2
        repeat (go_quiet (fail); try go_wp2)
        go_roundg (l0.length - (kk + 1))
        case measure => omega
        case rel =>
          refine ⟨kk + 1, _, by omega, by omega, by go_num, rfl, ⟨fun j hj => ?_⟩⟩
          by_cases e : j = kk
          · subst e
            rw [B.out]; exact hq
          · exact M.out j (by omega)
    · have hltz : ¬ (kk : Int) < (l0.length : Int) := by omega
      have hk : kk = l0.length := by omega
      have HK := Aside0.mk hk
      clear hk
      go_wp2
      go_ret
      refine ⟨?_, pw_below_drewN HB.out _⟩
      have := HF.out
      unfold slices_Index_3_int_3_int.f at this
      rw [gidx_miss _ z52 l0 0 (by rw [← HK.out]; exact M.out)] at this
      rw [← Option.some.inj this]
      rfl
end Go.Proofs.Ytcnplmajlanmdaa.Given
