/- impl.hexSteps and impl.hexNear by hand: an array of arrays, ranged over. -/
import Derived.Test.YtenaefpbjblmbaaQx0
import Derived.Test.YtenaefpbjblmbaaQx2
import Derived.Test.YtenaefpbjblmbaaGp
import Derived.Test.YtenaefpbjblmbaaGa
import Derived.Lib.Walk
import Derived.Shelf.Abstract
import Derived.Outline
namespace Go.Proofs.Ytenaefpbjblmbaa.Given
open Go.Proofs.Ytenaefpbjblmbaa.Q Go.RowKit Go.Proofs.YtenaefpbjblmbaaW.PrintWords Go.Proofs.YtenaefpbjblmbaaW.PrintLast Go.Proofs.YtenaefpbjblmbaaW.PrintMore
set_option linter.unusedVariables false
set_option linter.unusedSimpArgs false

def hsr : Nat → Int
  | 0 => -1
  | 1 => -1
  | 2 => 0
  | 3 => 0
  | 4 => 1
  | _ => 1
def hsc : Nat → Int
  | 0 => 0
  | 1 => 1
  | 2 => -1
  | 3 => 1
  | 4 => -1
  | _ => 0
/-- The array of steps. -/
def hexV : Value := .agg #[.int .i64 (-1), .int .i64 0, .int .i64 (-1), .int .i64 1, .int .i64 0, .int .i64 (-1), .int .i64 0, .int .i64 1, .int .i64 1, .int .i64 (-1), .int .i64 1, .int .i64 0]

theorem hexSteps_calls (w : World) : Calls Try.prog 87 #[] w fun e w' => e = .returned hexV ∧ Below w.heap.size w w' := by
  go_enter Try.func87, Try.ntmps87
  go_wp2
  exact bodyPost_ret (v := hexV) (by simp [results, Try.results87, go_sem, hexV]) rfl ⟨rfl, below_alloc (Below.refl _ _) _⟩
theorem ix6_0 (w : World) : (Instr.index 73 hexV (.int .i64 0)).run Try.prog w = .ok (.agg #[.int .i64 (-1), .int .i64 0]) w := by kernel_rfl
theorem ix6_1 (w : World) : (Instr.index 73 hexV (.int .i64 1)).run Try.prog w = .ok (.agg #[.int .i64 (-1), .int .i64 1]) w := by kernel_rfl
theorem ix6_2 (w : World) : (Instr.index 73 hexV (.int .i64 2)).run Try.prog w = .ok (.agg #[.int .i64 0, .int .i64 (-1)]) w := by kernel_rfl
theorem ix6_3 (w : World) : (Instr.index 73 hexV (.int .i64 3)).run Try.prog w = .ok (.agg #[.int .i64 0, .int .i64 1]) w := by kernel_rfl
theorem ix6_4 (w : World) : (Instr.index 73 hexV (.int .i64 4)).run Try.prog w = .ok (.agg #[.int .i64 1, .int .i64 (-1)]) w := by kernel_rfl
theorem ix6_5 (w : World) : (Instr.index 73 hexV (.int .i64 5)).run Try.prog w = .ok (.agg #[.int .i64 1, .int .i64 0]) w := by kernel_rfl
theorem ix6 (k : Nat) (hk : k < 6) (w : World) : (Instr.index 73 hexV (.int .i64 k)).run Try.prog w = .ok (.agg #[.int .i64 (hsr k), .int .i64 (hsc k)]) w := by
  have h : k = 0 ∨ k = 1 ∨ k = 2 ∨ k = 3 ∨ k = 4 ∨ k = 5 := by omega
  rcases h with rfl | rfl | rfl | rfl | rfl | rfl
  · exact ix6_0 w
  · exact ix6_1 w
  · exact ix6_2 w
  · exact ix6_3 w
  · exact ix6_4 w
  · exact ix6_5 w
theorem hs_bd (k : Nat) : (-1 ≤ hsr k ∧ hsr k ≤ 1) ∧ (-1 ≤ hsc k ∧ hsc k ≤ 1) := by
  match k with
  | 0 => exact ⟨⟨by decide, by decide⟩, by decide, by decide⟩
  | 1 => exact ⟨⟨by decide, by decide⟩, by decide, by decide⟩
  | 2 => exact ⟨⟨by decide, by decide⟩, by decide, by decide⟩
  | 3 => exact ⟨⟨by decide, by decide⟩, by decide, by decide⟩
  | 4 => exact ⟨⟨by decide, by decide⟩, by decide, by decide⟩
  | n + 5 => exact ⟨⟨(by decide : (-1 : Int) ≤ 1), (by decide : (1 : Int) ≤ 1)⟩, (by decide : (-1 : Int) ≤ 0), (by decide : (0 : Int) ≤ 1)⟩
theorem in6 (a b c : Int) : impl_in.f a b c = some (inRange a b c) := by
  unfold impl_in.f inRange
  by_cases h : b ≤ a <;> simp [h]
attribute [local go_sem high] ix6

theorem prod_bd {a x : Int} (h0 : 1 ≤ a) (h1 : a ≤ 30) (h2 : -1 ≤ x) (h3 : x ≤ 1001) : -30 ≤ a * x ∧ a * x ≤ 30030 := by
  have e1 : a * x ≤ a * 1001 := Int.mul_le_mul_of_nonneg_left h3 (by omega)
  have e2 : a * (-1) ≤ a * x := Int.mul_le_mul_of_nonneg_left h2 (by omega)
  omega
def hexIn (rows cols i : Int) (k : Nat) : Bool := inRange (i / cols + hsr k) 0 (rows - 1) && inRange (i % cols + hsc k) 0 (cols - 1)
def hexTo (cols i : Int) (k : Nat) : Int := cols * (i / cols + hsr k) + (i % cols + hsc k)
/-- The neighbours in the first m directions. -/
def hexL (rows cols i : Int) : Nat → List Int
  | 0 => []
  | m + 1 => if hexIn rows cols i m then hexL rows cols i m ++ [hexTo cols i m] else hexL rows cols i m
theorem hexL_len (rows cols i : Int) (m : Nat) : (hexL rows cols i m).length ≤ m := by
  induction m with
  | zero => simp [hexL]
  | succ m ih =>
    unfold hexL
    split
    · simp; omega
    · omega
def hexDom (rows cols i : Int) : Prop := (1 ≤ rows ∧ rows ≤ 30) ∧ (1 ≤ cols ∧ cols ≤ 30) ∧ 0 ≤ i ∧ i ≤ 1000
instance (rows cols i : Int) : Decidable (hexDom rows cols i) := by unfold hexDom; infer_instance
def impl_hexNear.f (a0 a1 a2 : Int) : Option (List Int) := if hexDom a0 a1 a2 then some (hexL a0 a1 a2 6) else none

set_option maxHeartbeats 4000000 in
set_option maxRecDepth 100000 in
theorem impl_hexNear.calls (a0 a1 a2 : Int) (r : List Int) (w : World) (h : impl_hexNear.f a0 a1 a2 = some r) :
    Calls Try.prog 70 #[.int .i64 a0, .int .i64 a1, .int .i64 a2] w fun e w' => ∃ v0_ : Value, e = .returned v0_ ∧ Kd.R (Kd.int .i64) 3 w' w.heap.size (fun _ => True) v0_ r ∧ Below w.heap.size w w' := by
  unfold impl_hexNear.f at h
  by_cases hd : hexDom a0 a1 a2
  case neg => rw [if_neg hd] at h; cases h
  rw [if_pos hd] at h
  have HR := Aside0.mk (Option.some.inj h)
  clear h
  obtain ⟨⟨r0, r1⟩, ⟨c0, c1⟩, i0, i1⟩ := hd
  have d0 : 0 ≤ a2 / a1 := Int.ediv_nonneg i0 (by omega)
  have d1 : a2 / a1 ≤ 1000 := by
    have := Int.ediv_le_self a1 i0
    omega
  have m0 : 0 ≤ a2 % a1 := Int.emod_nonneg _ (by omega)
  have m1 : a2 % a1 < a1 := Int.emod_lt_of_pos _ (by omega)
  go_enter Try.func70, Try.ntmps70
  go_wp2_with fail
  have RO := Aside0.mk (lit0c w w.heap.size (fun _ => True) (Nat.le_refl _) trivial)
  have B2 := Aside0.mk (below_alloc (Below.refl w.heap.size w) (.cells #[] 3))
  generalize (w.alloc (.cells #[] 3)) = w2 at RO B2 ⊢
  refine (hexSteps_calls _).mono ?_
  rintro e w3 ⟨rfl, B3⟩
  have RO := Aside0.mk (Kd.R_below RO.out B3)
  have BB := Aside0.mk (B2.out.trans (B3.mono B2.out.size))
  clear B2 B3
  go_wp2
  go_loopg [7, 14] 6 (fun gg s7 s14 wr => ∃ kk : Nat, kk ≤ 6 ∧ 6 - kk ≤ gg ∧ s14 = .int .i64 kk ∧ Aside0 (Kd.R (Kd.int .i64) 3 wr w.heap.size (fun _ => True) s7 (hexL a0 a1 a2 kk)) ∧ Aside0 (Below w.heap.size w wr))
  case atStart => exact ⟨0, by omega, by omega, rfl, RO, BB⟩
  case round =>
    clear RO BB
    obtain ⟨kk, hk, hg, rfl, RO, BB⟩ := hrel
    by_cases hlt : kk < 6
    · have hltz : (kk : Int) < 6 := by omega
      have IX := ix6 kk hlt
      have hb := hs_bd kk
      have EX : Aside0 (hexL a0 a1 a2 (kk + 1) = if hexIn a0 a1 a2 kk then hexL a0 a1 a2 kk ++ [hexTo a1 a2 kk] else hexL a0 a1 a2 kk) := ⟨rfl⟩
      have LEN := Aside0.mk (Nat.le_trans (hexL_len a0 a1 a2 kk) hk)
      unfold hexIn hexTo at EX
      generalize hexL a0 a1 a2 kk = l at RO EX LEN
      generalize hsr kk = sr at IX hb EX
      generalize hsc kk = sc at IX hb EX
      obtain ⟨⟨b1, b2⟩, b3, b4⟩ := hb
      obtain ⟨p0, p1⟩ := prod_bd c0 c1 (show -1 ≤ a2 / a1 + sr by omega) (show a2 / a1 + sr ≤ 1001 by omega)
      have I1 := Aside0.mk (in6 (a2 / a1 + sr) 0 (a0 - 1))
      have I2 := Aside0.mk (in6 (a2 % a1 + sc) 0 (a1 - 1))
      go_wp2_with fail
      have h0 : (wr.alloc (.cells #[.int .i64 sr, .int .i64 sc] 72)).cell? ⟨wr.heap.size, 0, none⟩ = some (.int .i64 sr) := by go_simp
      have h1 : (wr.alloc (.cells #[.int .i64 sr, .int .i64 sc] 72)).cell? ⟨wr.heap.size, 1, none⟩ = some (.int .i64 sc) := by go_simp
      have ro_ := Aside0.mk (Kd.R_alloc RO.out (.cells #[.int .i64 sr, .int .i64 sc] 72))
      have bb_ := Aside0.mk (below_alloc BB.out (.cells #[.int .i64 sr, .int .i64 sc] 72))
      clear RO BB IX
      generalize wr.alloc (.cells #[.int .i64 sr, .int .i64 sc] 72) = w5 at h0 h1 ro_ bb_ ⊢
      generalize wr.heap.size = zz at h0 h1 ⊢
      generalize inRange (a2 / a1 + sr) 0 (a0 - 1) = q1 at I1 EX
      generalize inRange (a2 % a1 + sc) 0 (a1 - 1) = q2 at I2 EX
      cases q1 with
      | false =>
        simp only [Bool.false_and, Bool.false_eq_true, if_false] at EX
        go_quiet (fail)
        go_wp2_with fail
        refine (impl_in.calls _ _ _ _ _ I1.out).mono ?_
        rintro e w' ⟨rfl, ⟨q, rfl⟩⟩
        go_wp2_with fail
        go_roundg (6 - (kk + 1))
        case measure => omega
        case rel => exact ⟨kk + 1, by omega, by omega, by go_num, ⟨by rw [EX.out]; repeat (first | exact ro_.out | apply Kd.R_drewN)⟩, ⟨by repeat (first | exact bb_.out | apply pw_below_drewN)⟩⟩
      | true =>
        cases q2 with
        | false =>
          simp only [Bool.and_false, Bool.false_eq_true, if_false] at EX
          go_quiet (fail)
          go_wp2_with fail
          refine (impl_in.calls _ _ _ _ _ I1.out).mono ?_
          rintro e w' ⟨rfl, ⟨q, rfl⟩⟩
          go_wp2_with fail
          refine (impl_in.calls _ _ _ _ _ I2.out).mono ?_
          rintro e w' ⟨rfl, ⟨q', rfl⟩⟩
          go_wp2_with fail
          go_roundg (6 - (kk + 1))
          case measure => omega
          case rel => exact ⟨kk + 1, by omega, by omega, by go_num, ⟨by rw [EX.out]; repeat (first | exact ro_.out | apply Kd.R_drewN)⟩, ⟨by repeat (first | exact bb_.out | apply pw_below_drewN)⟩⟩
        | true =>
          simp only [Bool.and_true, if_true] at EX
          go_quiet (fail)
          go_wp2_with fail
          refine (impl_in.calls _ _ _ _ _ I1.out).mono ?_
          rintro e w' ⟨rfl, ⟨q, rfl⟩⟩
          go_wp2_with fail
          refine (impl_in.calls _ _ _ _ _ I2.out).mono ?_
          rintro e w' ⟨rfl, ⟨q', rfl⟩⟩
          have ro2 := Aside0.mk (Kd.R_drewN (Kd.R_drewN (Kd.R_drewN ro_.out 0) q) q')
          go_wp2_with (at_builtin; go_loud (refine Kd.R_append (Kd.int .i64) (w0 := w) w.heap.size rfl (.tmp 39) (.tmp 45) 24 3 (.int .i64 0) 8 rfl Try.underlying24 infoC rfl (by decide) (by omega) u7 l (a1 * (a2 / a1 + sr) + (a2 % a1 + sc)) [.int .i64 (a1 * (a2 / a1 + sr) + (a2 % a1 + sc))] (fun _ => True) (fun _ => False) rfl rfl ?aP (fun _ hk => hk.elim) ?aF ?aO ?aB ?aS ?aL ?_; (case aP => exact rfl); (case aB => exact (by repeat (first | exact bb_.out | apply below_alloc | apply pw_below_drewN | apply below_drew1))); (case aF => exact (fun k_ hk => trivial)); (case aO => exact (by (with_reducible repeat (first | apply Kd.R_alloc | apply Kd.R_drewN | apply Kd.R_drew)); exact ro_.out)); (case aS => exact (below_size (by repeat (first | exact bb_.out | apply below_alloc | apply pw_below_drewN | apply below_drew1)))); (case aL => have := LEN.out; omega); intro v220 w11 ho hb hg hat; have HO := Aside0.mk ho; have HBB := Aside0.mk hb; clear ho hb hg hat))
          go_roundg (6 - (kk + 1))
          case measure => omega
          case rel => exact ⟨kk + 1, by omega, by omega, by go_num, ⟨by rw [EX.out]; exact HO.out⟩, HBB⟩
    · have hltz : ¬ (kk : Int) < 6 := by omega
      obtain rfl : kk = 6 := by omega
      rw [HR.out] at RO
      go_wp2
      go_ret
      exact ⟨_, rfl, RO.out, BB.out⟩
end Go.Proofs.Ytenaefpbjblmbaa.Given
