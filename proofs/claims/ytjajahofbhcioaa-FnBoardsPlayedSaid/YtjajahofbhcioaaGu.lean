/- spec.CountWins by hand (its shift's bound is told twice in the print); for all arguments. -/
import Derived.Test.YtjajahofbhcioaaQx0
import Derived.Test.YtjajahofbhcioaaQx1
import Derived.Test.YtjajahofbhcioaaQx2
import Derived.Test.YtjajahofbhcioaaQx4
import Derived.Test.YtjajahofbhcioaaGp
import Derived.Lib.Walk
import Derived.Shelf.Abstract
import Derived.Outline
namespace Go.Proofs.Ytjajahofbhcioaa.Given
open Go.Proofs.Ytjajahofbhcioaa.Q Go.RowKit Go.Proofs.YtjajahofbhcioaaW.PrintWords Go.Proofs.YtjajahofbhcioaaW.PrintLast Go.Proofs.YtjajahofbhcioaaW.PrintMore
set_option linter.unusedVariables false
set_option linter.unusedSimpArgs false

/-- The first i places of the board of a code. -/
def cwB (m : Nat) : Nat → List Int
  | 0 => []
  | i + 1 => cwB m i ++ [1 + (m : Int) / 2 ^ i % 2]
theorem cwB_len (m i : Nat) : (cwB m i).length = i := by
  induction i with
  | zero => rfl
  | succ i ih => simp [cwB, ih]
/-- How many of the first codes' boards are won. -/
def cwC (k : Nat) (a0 a1 a2 : Int) (n : Nat) : Nat → Option Int
  | 0 => some 0
  | m + 1 => (cwC k a0 a1 a2 n m).bind fun c => (spec_hxNeed.f k a0 a1 (cwB m n) a2).bind fun v => some (if v = 0 then c + 1 else c)
def spec_CountWins.f (k : Nat) (a0 a1 a2 : Int) : Option (Int × Bool) := (spec_hxSides.f a0 a1).bind fun t => if t = true then
  (if 0 ≤ a0 * a1 ∧ a0 * a1 ≤ 900 then (if a0 * a1 > 9 then some (0, false) else (spec_hxPlayer.f a2).bind fun p => if p = true then (cwC k a0 a1 a2 (a0 * a1).toNat (2 ^ (a0 * a1).toNat)).bind fun c => some (c, true) else some (0, false)) else none) else some (0, false)
theorem cwC_mono (a0 a1 a2 : Int) (n m : Nat) : ∀ k, LeO (cwC k a0 a1 a2 n m) (cwC (k + 1) a0 a1 a2 n m) := by
  intro k
  induction m with
  | zero => exact LeO.refl _
  | succ m ih => unfold cwC; exact LeO.bind ih (fun _ => LeO.bind (spec_hxNeed.mono _ _ _ _ k) (fun _ => LeO.refl _))
theorem spec_CountWins.mono : ∀ a0 a1 a2 k, LeO (spec_CountWins.f k a0 a1 a2) (spec_CountWins.f (k + 1) a0 a1 a2) := by
  intro a0 a1 a2 k
  unfold spec_CountWins.f
  exact LeO.bind (LeO.refl _) (fun _ => LeO.ite (LeO.ite (LeO.ite (LeO.refl _) (LeO.bind (LeO.refl _) (fun _ => LeO.ite (LeO.bind (cwC_mono _ _ _ _ _ _) (fun _ => LeO.refl _)) (LeO.refl _)))) (LeO.refl _)) (LeO.refl _))
theorem cwC_bd (k : Nat) (a0 a1 a2 : Int) (n : Nat) : ∀ m c, cwC k a0 a1 a2 n m = some c → 0 ≤ c ∧ c ≤ m := by
  intro m
  induction m with
  | zero => intro c h; cases h; omega
  | succ m ih =>
    intro c h
    unfold cwC at h
    obtain ⟨c0, h0, h⟩ := Option.bind_eq_some_iff.mp h
    obtain ⟨v, _, h⟩ := Option.bind_eq_some_iff.mp h
    have := ih c0 h0
    have h := Option.some.inj h
    split at h <;> omega

set_option maxHeartbeats 8000000 in
set_option maxRecDepth 100000 in
theorem spec_CountWins.calls (k : Nat) (a0 a1 a2 : Int) (r1 : Int) (r2 : Bool) (w : World) (h : spec_CountWins.f k a0 a1 a2 = some (r1, r2)) :
    Calls Try.prog 20 #[.int .i64 a0, .int .i64 a1, .int .i64 a2] w fun e w' => e = .returned (.tuple #[.int .i64 r1, .bool r2]) ∧ Below w.heap.size w w' := by
  obtain ⟨t, ht, h⟩ := Option.bind_eq_some_iff.mp h
  have HT := Aside0.mk ht
  clear ht
  cases t with
  | false =>
    simp only [Bool.false_eq_true, if_false, Option.some.injEq, Prod.mk.injEq] at h
    obtain ⟨rfl, rfl⟩ := h
    go_enter Try.func20, Try.ntmps20
    go_wp2_with fail
    refine (spec_hxSides.calls _ _ _ _ HT.out).mono ?_
    rintro e w1 ⟨rfl, ⟨q, rfl⟩⟩
    go_wp2_with fail
    go_ret2
    exact ⟨rfl, by repeat (first | exact Below.refl _ _ | apply pw_below_drewN)⟩
  | true =>
    simp only [if_true] at h
    split at h
    case isFalse => cases h
    rename_i hb
    obtain ⟨b0, b1⟩ := hb
    by_cases h9 : a0 * a1 > 9
    · rw [if_pos h9] at h
      simp only [Option.some.injEq, Prod.mk.injEq] at h
      obtain ⟨rfl, rfl⟩ := h
      have h9' : 9 < a0 * a1 := h9
      go_enter Try.func20, Try.ntmps20
      go_wp2_with fail
      refine (spec_hxSides.calls _ _ _ _ HT.out).mono ?_
      rintro e w1 ⟨rfl, ⟨q, rfl⟩⟩
      go_wp2_with fail
      go_ret2
      exact ⟨rfl, by repeat (first | exact Below.refl _ _ | apply pw_below_drewN)⟩
    · rw [if_neg h9] at h
      have h9' : ¬ 9 < a0 * a1 := h9
      obtain ⟨p, hp, h⟩ := Option.bind_eq_some_iff.mp h
      have HP := Aside0.mk hp
      clear hp
      cases p with
      | false =>
        simp only [Bool.false_eq_true, if_false, Option.some.injEq, Prod.mk.injEq] at h
        obtain ⟨rfl, rfl⟩ := h
        go_enter Try.func20, Try.ntmps20
        go_wp2_with fail
        refine (spec_hxSides.calls _ _ _ _ HT.out).mono ?_
        rintro e w1 ⟨rfl, ⟨q, rfl⟩⟩
        go_wp2_with fail
        refine (spec_hxPlayer.calls _ _ _ HP.out).mono ?_
        rintro e w2 ⟨rfl, ⟨q2, rfl⟩⟩
        go_wp2_with fail
        go_ret2
        exact ⟨rfl, by repeat (first | exact Below.refl _ _ | apply pw_below_drewN)⟩
      | true =>
        simp only [if_true] at h
        obtain ⟨c, hc, h⟩ := Option.bind_eq_some_iff.mp h
        simp only [Option.some.injEq, Prod.mk.injEq] at h
        obtain ⟨rfl, rfl⟩ := h
        obtain ⟨n, hn⟩ : ∃ n : Nat, a0 * a1 = (n : Int) := Int.eq_ofNat_of_zero_le b0
        rw [hn, Int.toNat_natCast] at hc
        have HC := Aside0.mk hc
        have n9 : n ≤ 9 := by omega
        clear hc h9 h9' b0 b1
        go_enter Try.func20, Try.ntmps20
        go_wp2_with fail
        refine (spec_hxSides.calls _ _ _ _ HT.out).mono ?_
        rintro e w1 ⟨rfl, ⟨q, rfl⟩⟩
        go_wp2_with fail
        refine (spec_hxPlayer.calls _ _ _ HP.out).mono ?_
        rintro e w2 ⟨rfl, ⟨q2, rfl⟩⟩
        go_wp2_with fail
        have B0 := Aside0.mk (show Below w.heap.size w (w.drewN (q + q2)) by repeat (first | exact Below.refl _ _ | apply pw_below_drewN))
        have hp2 : 2 ^ n ≤ 512 := Nat.le_trans (Nat.pow_le_pow_right (by decide) n9) (by decide)
        have n0 : 0 ≤ (n : Int) := by omega
        obtain ⟨N, hN⟩ : ∃ N, 2 ^ n = N := ⟨_, rfl⟩
        rw [hN] at hp2
        have HN := Aside0.mk hN
        clear hN
        generalize w.drewN (q + q2) = w3 at B0 ⊢
        have hpw : wrap64 ((2 : Int) ^ n) = (N : Int) := by
          have e : ((2 : Int) ^ n) = (N : Int) := by rw [← HN.out]; norm_cast
          rw [e]; unfold wrap64; omega
        go_loopg [9, 10] N (fun gg s9 s10 wr => ∃ (m : Nat) (c' : Int), s9 = .int .i64 c' ∧ s10 = .int .i64 m ∧ m ≤ N ∧ N - m ≤ gg ∧ Aside0 (cwC k a0 a1 a2 n m = some c') ∧ Aside0 (Below w.heap.size w wr))
        case atStart => exact ⟨0, 0, rfl, rfl, Nat.zero_le _, by omega, ⟨rfl⟩, B0⟩
        case round =>
          obtain ⟨m, c', rfl, rfl, hm, hg, HCC, HB⟩ := hrel
          by_cases hlt : m < N
          · have hltz : (m : Int) < (N : Int) := by omega
            have hcc := HCC.out
            have cb := cwC_bd k a0 a1 a2 n m c' hcc
            go_wp2
            simp only [hpw]
            go_loopg [11, 12] n (fun gg s11 s12 wr => ∃ i : Nat, s12 = .int .i64 i ∧ i ≤ n ∧ n - i ≤ gg ∧ Aside0 (Kd.R (Kd.int .i64) 3 wr w.heap.size (fun _ => True) s11 (cwB m i)) ∧ Aside0 (Below w.heap.size w wr))
            case atStart => exact ⟨0, rfl, Nat.zero_le _, by omega, ⟨Kd.R_nil _ _ _ _ _⟩, HB⟩
            case round =>
              clear HB
              obtain ⟨i, rfl, hi, hgi, HR, HB⟩ := hrel
              by_cases hil : i < n
              · have hilz : (i : Int) < (n : Int) := by omega
                have i0 : 0 ≤ (i : Int) := by omega
                have d0 : 0 ≤ (m : Int) / 2 ^ i := Int.ediv_nonneg (by omega) (Int.le_of_lt (Int.pow_pos (by decide)))
                have EX : Aside0 (cwB m (i + 1) = cwB m i ++ [1 + (m : Int) / 2 ^ i % 2]) := ⟨rfl⟩
                have LEN := Aside0.mk (cwB_len m i)
                generalize cwB m i = l at HR EX LEN
                go_wp2_with (at_builtin; refine Kd.R_append (Kd.int .i64) (w0 := w) w.heap.size rfl (.tmp 42) (.tmp 48) 24 3 (.int .i64 0) 8 rfl Try.underlying24 infoC rfl (by decide) (by omega) u11 l (1 + (m : Int) / 2 ^ i % 2) [.int .i64 (1 + (m : Int) / 2 ^ i % 2)] (fun _ => True) (fun _ => False) rfl rfl ?aP (fun _ hk => hk.elim) ?aF ?aO ?aB ?aS ?aL ?_; (case aP => exact rfl); (case aB => exact (by repeat (first | exact HB.out | apply below_alloc | apply pw_below_drewN | apply below_drew1))); (case aF => exact (fun k_ hk => trivial)); (case aO => exact (by (with_reducible repeat (first | apply Kd.R_alloc | apply Kd.R_drewN | apply Kd.R_drew)); exact HR.out)); (case aS => exact (below_size (by repeat (first | exact HB.out | apply below_alloc | apply pw_below_drewN | apply below_drew1)))); (case aL => have := LEN.out; omega); intro v220 w11 ho hb hg hat; have HO := Aside0.mk ho; have HBB := Aside0.mk hb; clear ho hb hg hat)
                go_roundg (n - (i + 1))
                case measure => omega
                case rel => exact ⟨i + 1, by go_num, by omega, by omega, ⟨by rw [EX.out]; exact HO.out⟩, HBB⟩
              · have hilz : ¬ (i : Int) < (n : Int) := by omega
                obtain rfl : i = n := by omega
                obtain ⟨Ab, cb2, rfl⟩ := Kd.R_slice HR.out
                have RB := Aside0.mk (Kd.R_reads' HR.out)
                clear HR
                have hs : ∃ v, spec_hxNeed.f k a0 a1 (cwB m i) a2 = some v := by
                  cases hh : spec_hxNeed.f k a0 a1 (cwB m i) a2 with
                  | some v => exact ⟨v, rfl⟩
                  | none =>
                    exfalso
                    have hle : m + 1 ≤ N := hlt
                    have h1 : cwC k a0 a1 a2 i (m + 1) = none := by unfold cwC; rw [hcc]; simp [hh]
                    have h2 : ∀ d, cwC k a0 a1 a2 i (m + 1 + d) = none := by
                      intro d
                      induction d with
                      | zero => exact h1
                      | succ d ih => rw [← Nat.add_assoc]; unfold cwC; rw [ih]; rfl
                    have h3 := h2 (N - (m + 1))
                    have h4 := HC.out
                    rw [HN.out] at h4
                    rw [show m + 1 + (N - (m + 1)) = N by omega, h4] at h3
                    cases h3
                obtain ⟨v, hv⟩ := hs
                have HV := Aside0.mk hv
                have HNX : Aside0 (cwC k a0 a1 a2 i (m + 1) = some (if v = 0 then c' + 1 else c')) := ⟨by unfold cwC; rw [hcc]; simp [hv]⟩
                clear hv hcc
                go_wp2_with fail
                refine (spec_hxNeed.calls k _ _ _ _ (cwB m i) _ v _ RB.out.2.2 RB.out.2.1 HV.out).mono ?_
                rintro e w5 ⟨rfl, B5⟩
                have HB := Aside0.mk (below_step HB.out B5)
                by_cases hz : v = 0
                · subst hz
                  rw [if_pos rfl] at HNX
                  go_wp2_with fail
                  go_roundg (N - (m + 1))
                  case measure => omega
                  case rel => exact ⟨m + 1, c' + 1, rfl, by go_num, by omega, by omega, HNX, HB⟩
                · rw [if_neg hz] at HNX
                  have e1 : (v == 0) = false := beq_eq_false_iff_ne.mpr hz
                  go_wp2_with fail
                  go_roundg (N - (m + 1))
                  case measure => omega
                  case rel => exact ⟨m + 1, c', rfl, by go_num, by omega, by omega, HNX, HB⟩
          · have hltz : ¬ (m : Int) < (N : Int) := by omega
            obtain rfl : m = N := by omega
            have hcc : c' = c := by
              have h4 := HC.out
              rw [HN.out] at h4
              exact Option.some.inj (HCC.out.symm.trans h4)
            subst hcc
            go_wp2_with fail
            go_ret2
            exact ⟨rfl, HB.out⟩
end Go.Proofs.Ytjajahofbhcioaa.Given
