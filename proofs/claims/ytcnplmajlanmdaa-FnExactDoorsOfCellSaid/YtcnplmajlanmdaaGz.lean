/- The library's IndexFunc over rows of numbers, where the predicate may allocate (its contract ends in Below). -/
import Derived.Test.YtcnplmajlanmdaaQx0
import Derived.Lib.Walk
import Derived.Shelf.Abstract
import Derived.Lib.SlKept
import Derived.Lib.SliceRun
import Derived.Sort.WalkA
import Derived.Outline
namespace Go.Proofs.Ytcnplmajlanmdaa.Given
open Go.Proofs.Ytcnplmajlanmdaa.Q Go.RowKit Go.Proofs.YtcnplmajlanmdaaW.PrintWords Go.Proofs.YtcnplmajlanmdaaW.PrintLast Go.Proofs.YtcnplmajlanmdaaW.PrintMore Go.Lib Go.Sort
set_option linter.unusedVariables false
set_option linter.unusedSimpArgs false

/-- A slice's three words. -/
abbrev Sl := Option Addr × Nat × Nat
def encS (x : Sl) : Value := .slice x.1 x.2.1 x.2.2

set_option maxHeartbeats 2000000 in
theorem IndexFunc_rowsB (kp : Nat → Bool) (g : Nat) (lb : Array Value) (eg : ∀ args w, (callFunc g args).run Try.prog w = .ok (.enter g args) w) (b cap : Nat) (d : Array Sl) (w : World)
    (hc : ∀ j, j < d.size → w.cell? ⟨b, j, none⟩ = some (encS d[j]!)) (hb : b < w.heap.size) (hsz : d.size ≤ 9223372036854775807)
    (hp : ∀ j, j < d.size → ∀ W, Below w.heap.size w W → Calls Try.prog g (#[encS d[j]!] ++ lb) W fun e w' => e = .returned (.bool (!kp j)) ∧ Below W.heap.size W w') :
    Calls Try.prog 84 #[.slice (some ⟨b, 0, none⟩) d.size cap, .func (.func g) #[] lb] w fun e w' => ∃ r : Int, e = .returned (.int .i64 r) ∧ Below w.heap.size w w' ∧ ((r = -1 ∧ ∀ j, j < d.size → kp j = true) ∨ ∃ k : Nat, k < d.size ∧ r = k ∧ kp k = false ∧ ∀ j, j < k → kp j = true) := by
  have HC := Aside0.mk hc
  have HP := Aside0.mk hp
  have HLT := Aside0.mk hb
  clear hc hp hb
  go_enter Try.func84, Try.ntmps84
  go_wp2
  go_loopg [5, 8] d.size (fun gg _ s8 wr => ∃ kk : Nat, kk ≤ d.size ∧ d.size - kk ≤ gg ∧ s8 = .int .i64 kk ∧ Aside0 (Below w.heap.size w wr) ∧ Aside0 (∀ j, j < kk → kp j = true))
  case atStart => exact ⟨0, Nat.zero_le _, by omega, rfl, ⟨Below.refl _ _⟩, ⟨fun j hj => absurd hj (Nat.not_lt_zero _)⟩⟩
  case round =>
    obtain ⟨kk, hkk, hg, rfl, BB, M⟩ := hrel
    by_cases hlt : kk < d.size
    · have hltz : (kk : Int) < (d.size : Int) := by omega
      have hx := (BB.out.cell (p := ⟨b, kk, none⟩) HLT.out).trans (HC.out kk hlt)
      have hcall := HP.out kk hlt _ BB.out
      unfold encS at hx hcall
      generalize d[kk]!.1 = y1 at hx hcall
      generalize d[kk]!.2.1 = y2 at hx hcall
      generalize d[kk]!.2.2 = y3 at hx hcall
      cases hq : kp kk with
      | false =>
        rw [hq] at hcall
        simp only [Bool.not_false] at hcall
        go_wp2_with (go_at_fn g; refine hcall.mono ?_; rintro e w' ⟨rfl, B2⟩)
        go_ret
        exact ⟨_, rfl, BB.out.trans (B2.mono BB.out.size), .inr ⟨kk, hlt, rfl, hq, M.out⟩⟩
      | true =>
        rw [hq] at hcall
        simp only [Bool.not_true] at hcall
        go_wp2_with (go_at_fn g; refine hcall.mono ?_; rintro e w' ⟨rfl, B2⟩; have B3 := Aside0.mk (BB.out.trans (B2.mono BB.out.size)); clear B2)
        go_roundg (d.size - (kk + 1))
        case measure => omega
        case rel =>
          refine ⟨kk + 1, by omega, by omega, by go_num, by first | exact B3 | exact ⟨pw_below_drewN B3.out _⟩, ⟨fun j hj => ?_⟩⟩
          by_cases e : j = kk
          · subst e
            exact hq
          · exact M.out j (by omega)
    · have hltz : ¬ (kk : Int) < (d.size : Int) := by omega
      have hk : kk = d.size := by omega
      have HK := Aside0.mk hk
      clear hk
      go_wp2
      go_ret
      exact ⟨_, rfl, BB.out, .inl ⟨rfl, by rw [← HK.out]; exact M.out⟩⟩
end Go.Proofs.Ytcnplmajlanmdaa.Given
