/- What is told of the law FnBoardsPlayed: its walk by hand; for all bytes. The walk of the law FnBoardsPlayed by hand: no game; for all bytes. The walk of the law FnBoardsPlayed by hand: the player has won; for all bytes. The walk of the law FnBoardsPlayed by hand: the other player has won; for all bytes. The walk of the law FnBoardsPlayed by hand: no move wins; for all bytes. The walk of the law FnBoardsPlayed by hand: a move wins; for all bytes. The walk of the law FnBoardsPlayed by hand, joined out of its cases; for all bytes. -/
import Derived.Test.YtjajahofbhcioaaJc
import Derived.Test.YtjajahofbhcioaaKe
import Derived.Test.YtjajahofbhcioaaGp
import Derived.Test.YtjajahofbhcioaaGu
import Derived.Test.YtjajahofbhcioaaQx1
import Derived.Test.YtjajahofbhcioaaQx7
import Derived.Test.YtjajahofbhcioaaQx6
import Derived.Lib.Walk
import Derived.Outline
namespace Go.Proofs.Ytjajahofbhcioaa.Q
open Go.Proofs.Ytjajahofbhcioaa.Given Go.RowKit Go.Proofs.YtjajahofbhcioaaW.PrintWords Go.Proofs.YtjajahofbhcioaaW.PrintLast Go.Proofs.YtjajahofbhcioaaW.PrintMore
set_option linter.unusedVariables false
set_option linter.unusedSimpArgs false

structure PlayA (k : Nat) (a c : Int) (b : List Int) (p : Int) (wins ok : Bool) (mv : Int) (one : Bool) : Prop where
  wI : impl_WinsMoving.f k a c b p = some (wins, ok)
  wS : spec_WinsMoving.f k a c b p = some (wins, ok)
  fI : impl_FirstWinningMove.f k a c b p = some (mv, one)
  fS : spec_FirstWinningMove.f k a c b p = some (mv, one)
  len : b.length ≤ 1000
structure PlayB (k : Nat) (a c : Int) (b : List Int) (p : Int) (won other : Bool) : Prop where
  hA : impl_HasWon.f k a c b p = some (won, true)
  hB : impl_HasWon.f k a c b (wrap64 (3 - p)) = some (other, true)
structure PlayC (k : Nat) (a c : Int) (b : List Int) (p : Int) (m : Nat) : Prop where
  m1 : m < b.length
  each : ∀ i : Nat, i ≤ m → rd b (i : Nat) = 0 → impl_WinsMoving.f k a c (b.set i p) (wrap64 (3 - p)) = some (decide ((i : Int) < (m : Int)), true)
structure PlayD (k : Nat) (l1 : List Int) (r c who cnt : Int) (three : Bool) : Prop where
  dc : spec_DrawCountWins.f l1 = some (r, c, who)
  cI : impl_CountWins.f k r c who = some (cnt, three)
  cS : spec_CountWins.f k r c who = some (cnt, three)
structure PlayE (k : Nat) (r c who cnt other n S : Int) : Prop where
  oI : impl_CountWins.f k r c (wrap64 (3 - who)) = some (other, true)
  tI : impl_CountWins.f k c r (wrap64 (3 - who)) = some (cnt, true)
  hn : wrap64 (r * c) = n
  n0 : 0 ≤ n
  n9 : n ≤ 64
  hs : shl .i64 1 n = S
  sum : wrap64 (cnt + other) = S
  eq : r = c → cnt = other
/-- How the answers lie together. -/
inductive PlayF (k : Nat) (a c : Int) (b : List Int) (p : Int) : Bool → Bool → Int → Bool → Prop
  | no (wins : Bool) (mv : Int) : PlayF k a c b p wins false mv false
  | won (mv : Int) : PlayB k a c b p true false → PlayF k a c b p true true mv false
  | lost (mv : Int) : PlayB k a c b p false true → PlayF k a c b p false true mv false
  | bad (mv : Int) : PlayB k a c b p false false → PlayF k a c b p false true mv false
  | good (m : Nat) : PlayB k a c b p false false → PlayC k a c b p m → PlayF k a c b p true true (m : Int) true
def laws_FnBoardsPlayed.Pure : Prop := ∀ (l0 l1 : List Int), (∀ x ∈ l0, (Lit.int .u8 x).wf = true) → (∀ x ∈ l1, (Lit.int .u8 x).wf = true) → ∃ k a c b p wins ok mv one r c' who cnt three, spec_DrawWinsMoving.f k l0 = some (a, c, b, p) ∧ PlayA k a c b p wins ok mv one ∧ PlayF k a c b p wins ok mv one ∧ PlayD k l1 r c' who cnt three ∧ (three = true → ∃ other n S, PlayE k r c' who cnt other n S)
end Go.Proofs.Ytjajahofbhcioaa.Q

namespace Go.Proofs.Ytjajahofbhcioaa.Q
open Go.Proofs.Ytjajahofbhcioaa.Given Go.RowKit Go.Proofs.YtjajahofbhcioaaW.PrintWords Go.Proofs.YtjajahofbhcioaaW.PrintLast Go.Proofs.YtjajahofbhcioaaW.PrintMore
set_option linter.unusedVariables false
set_option linter.unusedSimpArgs false

set_option maxHeartbeats 64000000 in
set_option maxRecDepth 100000 in
theorem boards_1 (k : Nat) (a c : Int) (b : List Int) (p : Int) (wins : Bool) (mv : Int) (r c' who cnt : Int) (three : Bool) (l0 l1 : List Int) (a0 : Option Addr) (cap0 : Nat) (a1 : Option Addr) (cap1 : Nat) (w : World)
    (hr0 : Kd.C (Kd.int .u8) w a0 l0.length l0) (hc0 : l0.length ≤ cap0) (hr1 : Kd.C (Kd.int .u8) w a1 l1.length l1) (hc1 : l1.length ≤ cap1) (hbg : laws_big.f l0 l1 = some false) (hdr : spec_DrawWinsMoving.f k l0 = some (a, c, b, p))
    (hA : PlayA k a c b p wins false mv false) (hD : PlayD k l1 r c' who cnt three) (hE : three = true → ∃ other n S, PlayE k r c' who cnt other n S) :
    Calls Try.prog 3 #[.slice a0 l0.length cap0, .slice a1 l1.length cap1] w fun e w' => e = .returned (.bool true) ∧ Below w.heap.size w w' := by
  have HR0 := Aside0.mk hr0
  have HC0 := Aside0.mk hc0
  have HR1 := Aside0.mk hr1
  have HC1 := Aside0.mk hc1
  have HBG := Aside0.mk hbg
  have HDR := Aside0.mk hdr
  have HA := Aside0.mk hA
  have HD := Aside0.mk hD
  have HE := Aside0.mk hE
  clear hr0 hc0 hr1 hc1 hbg hdr hA hD hE
  go_enter Try.func3, Try.ntmps3
  go_wp2_with fail
  refine (laws_big.calls _ _ l0 _ _ l1 false _ (by repeat (first | exact HR0.out | apply Kd.C_drewN)) HC0.out (by repeat (first | exact HR1.out | apply Kd.C_drewN)) HC1.out HBG.out).mono ?_
  rintro e w1 ⟨rfl, ⟨q1, rfl⟩⟩
  go_wp2_with fail
  refine (spec_DrawWinsMoving.calls k _ _ l0 a c b p _ (by repeat (first | exact HR0.out | apply Kd.C_drewN)) HC0.out HDR.out).mono ?_
  rintro e W ⟨vb, rfl, RB, B2⟩
  obtain ⟨Ab, cb, rfl⟩ := Kd.R_slice RB
  have CB := Aside0.mk (Kd.R_reads' RB)
  have BB := Aside0.mk (show Below w.heap.size w W from below_step (by repeat (first | exact Below.refl _ _ | apply pw_below_drewN)) B2)
  have HR1 := Aside0.mk (Kd.C_below HR1.out BB.out)
  have X := Aside0.mk (Below.refl W.heap.size W)
  clear RB B2 HR0 HC0 HDR HBG
  go_wp2_with fail
  refine (impl_WinsMoving.calls k a c _ _ b p wins false _ (by repeat (first | exact Kd.C_below CB.out.2.2 X.out | apply Kd.C_drewN)) CB.out.2.1 HA.out.wI).mono ?_
  rintro e w3 ⟨rfl, BX⟩
  have X := Aside0.mk (below_step (show Below W.heap.size W _ by repeat (first | exact X.out | apply pw_below_drewN)) BX)
  clear BX
  go_wp2_with fail
  refine (spec_WinsMoving.calls k a c _ _ b p wins false _ (by repeat (first | exact Kd.C_below CB.out.2.2 X.out | apply Kd.C_drewN)) CB.out.2.1 HA.out.wS).mono ?_
  rintro e w4 ⟨rfl, BX⟩
  have X := Aside0.mk (below_step (show Below W.heap.size W _ by repeat (first | exact X.out | apply pw_below_drewN)) BX)
  clear BX
  go_wp2_with fail
  refine (impl_FirstWinningMove.calls k a c _ _ b p mv false _ (by repeat (first | exact Kd.C_below CB.out.2.2 X.out | apply Kd.C_drewN)) CB.out.2.1 HA.out.fI).mono ?_
  rintro e w5 ⟨rfl, BX⟩
  have X := Aside0.mk (below_step (show Below W.heap.size W _ by repeat (first | exact X.out | apply pw_below_drewN)) BX)
  clear BX
  go_wp2_with fail
  refine (spec_FirstWinningMove.calls k a c _ _ b p mv false _ (by repeat (first | exact Kd.C_below CB.out.2.2 X.out | apply Kd.C_drewN)) CB.out.2.1 HA.out.fS).mono ?_
  rintro e w6 ⟨rfl, BX⟩
  have X := Aside0.mk (below_step (show Below W.heap.size W _ by repeat (first | exact X.out | apply pw_below_drewN)) BX)
  clear BX
  go_wp2_with fail
  refine (spec_DrawCountWins.calls _ _ l1 r c' who _ (by repeat (first | exact Kd.C_below HR1.out X.out | apply Kd.C_drewN)) HC1.out HD.out.dc).mono ?_
  rintro e w7 ⟨rfl, BX⟩
  have X := Aside0.mk (below_step (show Below W.heap.size W _ by repeat (first | exact X.out | apply pw_below_drewN)) BX)
  clear BX CB
  go_wp2_with fail
  refine (impl_CountWins.calls k r c' who cnt three _ HD.out.cI).mono ?_
  rintro e w8 ⟨rfl, BX⟩
  have X := Aside0.mk (below_step (show Below W.heap.size W _ by repeat (first | exact X.out | apply pw_below_drewN)) BX)
  clear BX
  go_wp2_with fail
  refine (spec_CountWins.calls k r c' who cnt three _ HD.out.cS).mono ?_
  rintro e w9 ⟨rfl, BX⟩
  have X := Aside0.mk (below_step (show Below W.heap.size W _ by repeat (first | exact X.out | apply pw_below_drewN)) BX)
  clear BX
  cases three with
  | false =>
    as_aux_lemma =>
    go_wp2
    go_ret
    exact ⟨rfl, by repeat (first | exact below_step BB.out X.out | apply pw_below_drewN)⟩
  | true =>
    as_aux_lemma =>
    obtain ⟨other, n, S, hE⟩ := HE.out rfl
    have HEE := Aside0.mk hE
    clear hE HE
    go_wp2_with fail
    refine (impl_CountWins.calls k r c' _ other true _ HEE.out.oI).mono ?_
    rintro e w10 ⟨rfl, BX⟩
    have X := Aside0.mk (below_step (show Below W.heap.size W _ by repeat (first | exact X.out | apply pw_below_drewN)) BX)
    clear BX
    go_wp2_with fail
    refine (impl_CountWins.calls k c' r _ cnt true _ HEE.out.tI).mono ?_
    rintro e w11 ⟨rfl, BX⟩
    have X := Aside0.mk (below_step (show Below W.heap.size W _ by repeat (first | exact X.out | apply pw_below_drewN)) BX)
    clear BX
    have hn := HEE.out.hn
    have hnw : (IntKind.i64.wrap (r * c')) = n := (i64_w _).trans hn
    have n0 := HEE.out.n0
    have n0b := eq_true n0
    have n0c : decide (0 ≤ n) = true := decide_eq_true n0
    have n0d : ¬ n < 0 := by omega
    have hs := HEE.out.hs
    have hs_ : (IntKind.i64.wrap (1 * 2 ^ min (n).toNat 64)) = S := hs
    have hsz : (n) ≤ 64 → (IntKind.i64.wrap (1 * 2 ^ (n).toNat)) = S := shl_small hs
    have hsu : (IntKind.i64.wrap (2 ^ min (n).toNat 64)) = S := by have h_ := hs_; rw [Int.one_mul] at h_; exact h_
    have hsv : (n) ≤ 64 → (IntKind.i64.wrap (2 ^ (n).toNat)) = S := fun hle_ => by have h_ := hsz hle_; rw [Int.one_mul] at h_; exact h_
    have hsy : (wrap64 (1 * 2 ^ min (n).toNat 64)) = S := (i64_w _).symm.trans hs_
    have hsx : (wrap64 (2 ^ min (n).toNat 64)) = S := (i64_w _).symm.trans hsu
    have sum := HEE.out.sum
    by_cases hrc : r = c'
    · as_aux_lemma =>
      subst hrc
      obtain rfl := HEE.out.eq rfl
      go_wp2
      go_ret
      exact ⟨rfl, by repeat (first | exact below_step BB.out X.out | apply pw_below_drewN)⟩
    · as_aux_lemma =>
      have hrc1 : (r == c') = false := beq_eq_false_iff_ne.2 hrc
      go_wp2
      go_ret
      exact ⟨rfl, by repeat (first | exact below_step BB.out X.out | apply pw_below_drewN)⟩
end Go.Proofs.Ytjajahofbhcioaa.Q

namespace Go.Proofs.Ytjajahofbhcioaa.Q
open Go.Proofs.Ytjajahofbhcioaa.Given Go.RowKit Go.Proofs.YtjajahofbhcioaaW.PrintWords Go.Proofs.YtjajahofbhcioaaW.PrintLast Go.Proofs.YtjajahofbhcioaaW.PrintMore
set_option linter.unusedVariables false
set_option linter.unusedSimpArgs false

set_option maxHeartbeats 64000000 in
set_option maxRecDepth 100000 in
theorem boards_2 (k : Nat) (a c : Int) (b : List Int) (p : Int) (mv : Int) (r c' who cnt : Int) (three : Bool) (l0 l1 : List Int) (a0 : Option Addr) (cap0 : Nat) (a1 : Option Addr) (cap1 : Nat) (w : World)
    (hr0 : Kd.C (Kd.int .u8) w a0 l0.length l0) (hc0 : l0.length ≤ cap0) (hr1 : Kd.C (Kd.int .u8) w a1 l1.length l1) (hc1 : l1.length ≤ cap1) (hbg : laws_big.f l0 l1 = some false) (hdr : spec_DrawWinsMoving.f k l0 = some (a, c, b, p))
    (hA : PlayA k a c b p true true mv false) (hB : PlayB k a c b p true false) (hD : PlayD k l1 r c' who cnt three) (hE : three = true → ∃ other n S, PlayE k r c' who cnt other n S) :
    Calls Try.prog 3 #[.slice a0 l0.length cap0, .slice a1 l1.length cap1] w fun e w' => e = .returned (.bool true) ∧ Below w.heap.size w w' := by
  have HR0 := Aside0.mk hr0
  have HC0 := Aside0.mk hc0
  have HR1 := Aside0.mk hr1
  have HC1 := Aside0.mk hc1
  have HBG := Aside0.mk hbg
  have HDR := Aside0.mk hdr
  have HA := Aside0.mk hA
  have HD := Aside0.mk hD
  have HE := Aside0.mk hE
  have HB := Aside0.mk hB
  clear hr0 hc0 hr1 hc1 hbg hdr hA hD hE hB
  go_enter Try.func3, Try.ntmps3
  go_wp2_with fail
  refine (laws_big.calls _ _ l0 _ _ l1 false _ (by repeat (first | exact HR0.out | apply Kd.C_drewN)) HC0.out (by repeat (first | exact HR1.out | apply Kd.C_drewN)) HC1.out HBG.out).mono ?_
  rintro e w1 ⟨rfl, ⟨q1, rfl⟩⟩
  go_wp2_with fail
  refine (spec_DrawWinsMoving.calls k _ _ l0 a c b p _ (by repeat (first | exact HR0.out | apply Kd.C_drewN)) HC0.out HDR.out).mono ?_
  rintro e W ⟨vb, rfl, RB, B2⟩
  obtain ⟨Ab, cb, rfl⟩ := Kd.R_slice RB
  have CB := Aside0.mk (Kd.R_reads' RB)
  have BB := Aside0.mk (show Below w.heap.size w W from below_step (by repeat (first | exact Below.refl _ _ | apply pw_below_drewN)) B2)
  have HR1 := Aside0.mk (Kd.C_below HR1.out BB.out)
  have X := Aside0.mk (Below.refl W.heap.size W)
  clear RB B2 HR0 HC0 HDR HBG
  go_wp2_with fail
  refine (impl_WinsMoving.calls k a c _ _ b p true true _ (by repeat (first | exact Kd.C_below CB.out.2.2 X.out | apply Kd.C_drewN)) CB.out.2.1 HA.out.wI).mono ?_
  rintro e w3 ⟨rfl, BX⟩
  have X := Aside0.mk (below_step (show Below W.heap.size W _ by repeat (first | exact X.out | apply pw_below_drewN)) BX)
  clear BX
  go_wp2_with fail
  refine (spec_WinsMoving.calls k a c _ _ b p true true _ (by repeat (first | exact Kd.C_below CB.out.2.2 X.out | apply Kd.C_drewN)) CB.out.2.1 HA.out.wS).mono ?_
  rintro e w4 ⟨rfl, BX⟩
  have X := Aside0.mk (below_step (show Below W.heap.size W _ by repeat (first | exact X.out | apply pw_below_drewN)) BX)
  clear BX
  go_wp2_with fail
  refine (impl_FirstWinningMove.calls k a c _ _ b p mv false _ (by repeat (first | exact Kd.C_below CB.out.2.2 X.out | apply Kd.C_drewN)) CB.out.2.1 HA.out.fI).mono ?_
  rintro e w5 ⟨rfl, BX⟩
  have X := Aside0.mk (below_step (show Below W.heap.size W _ by repeat (first | exact X.out | apply pw_below_drewN)) BX)
  clear BX
  go_wp2_with fail
  refine (spec_FirstWinningMove.calls k a c _ _ b p mv false _ (by repeat (first | exact Kd.C_below CB.out.2.2 X.out | apply Kd.C_drewN)) CB.out.2.1 HA.out.fS).mono ?_
  rintro e w6 ⟨rfl, BX⟩
  have X := Aside0.mk (below_step (show Below W.heap.size W _ by repeat (first | exact X.out | apply pw_below_drewN)) BX)
  clear BX
  go_wp2_with fail
  refine (impl_HasWon.calls k a c _ _ b p true true _ (by repeat (first | exact Kd.C_below CB.out.2.2 X.out | apply Kd.C_drewN)) CB.out.2.1 HB.out.hA).mono ?_
  rintro e w60 ⟨rfl, BX⟩
  have X := Aside0.mk (below_step (show Below W.heap.size W _ by repeat (first | exact X.out | apply pw_below_drewN)) BX)
  clear BX
  go_wp2_with fail
  refine (impl_HasWon.calls k a c _ _ b _ false true _ (by repeat (first | exact Kd.C_below CB.out.2.2 X.out | apply Kd.C_drewN)) CB.out.2.1 HB.out.hB).mono ?_
  rintro e w61 ⟨rfl, BX⟩
  have X := Aside0.mk (below_step (show Below W.heap.size W _ by repeat (first | exact X.out | apply pw_below_drewN)) BX)
  clear BX
  go_wp2_with fail
  refine (spec_DrawCountWins.calls _ _ l1 r c' who _ (by repeat (first | exact Kd.C_below HR1.out X.out | apply Kd.C_drewN)) HC1.out HD.out.dc).mono ?_
  rintro e w7 ⟨rfl, BX⟩
  have X := Aside0.mk (below_step (show Below W.heap.size W _ by repeat (first | exact X.out | apply pw_below_drewN)) BX)
  clear BX CB
  go_wp2_with fail
  refine (impl_CountWins.calls k r c' who cnt three _ HD.out.cI).mono ?_
  rintro e w8 ⟨rfl, BX⟩
  have X := Aside0.mk (below_step (show Below W.heap.size W _ by repeat (first | exact X.out | apply pw_below_drewN)) BX)
  clear BX
  go_wp2_with fail
  refine (spec_CountWins.calls k r c' who cnt three _ HD.out.cS).mono ?_
  rintro e w9 ⟨rfl, BX⟩
  have X := Aside0.mk (below_step (show Below W.heap.size W _ by repeat (first | exact X.out | apply pw_below_drewN)) BX)
  clear BX
  cases three with
  | false =>
    as_aux_lemma =>
    go_wp2
    go_ret
    exact ⟨rfl, by repeat (first | exact below_step BB.out X.out | apply pw_below_drewN)⟩
  | true =>
    as_aux_lemma =>
    obtain ⟨other, n, S, hE⟩ := HE.out rfl
    have HEE := Aside0.mk hE
    clear hE HE
    go_wp2_with fail
    refine (impl_CountWins.calls k r c' _ other true _ HEE.out.oI).mono ?_
    rintro e w10 ⟨rfl, BX⟩
    have X := Aside0.mk (below_step (show Below W.heap.size W _ by repeat (first | exact X.out | apply pw_below_drewN)) BX)
    clear BX
    go_wp2_with fail
    refine (impl_CountWins.calls k c' r _ cnt true _ HEE.out.tI).mono ?_
    rintro e w11 ⟨rfl, BX⟩
    have X := Aside0.mk (below_step (show Below W.heap.size W _ by repeat (first | exact X.out | apply pw_below_drewN)) BX)
    clear BX
    have hn := HEE.out.hn
    have hnw : (IntKind.i64.wrap (r * c')) = n := (i64_w _).trans hn
    have n0 := HEE.out.n0
    have n0b := eq_true n0
    have n0c : decide (0 ≤ n) = true := decide_eq_true n0
    have n0d : ¬ n < 0 := by omega
    have hs := HEE.out.hs
    have hs_ : (IntKind.i64.wrap (1 * 2 ^ min (n).toNat 64)) = S := hs
    have hsz : (n) ≤ 64 → (IntKind.i64.wrap (1 * 2 ^ (n).toNat)) = S := shl_small hs
    have hsu : (IntKind.i64.wrap (2 ^ min (n).toNat 64)) = S := by have h_ := hs_; rw [Int.one_mul] at h_; exact h_
    have hsv : (n) ≤ 64 → (IntKind.i64.wrap (2 ^ (n).toNat)) = S := fun hle_ => by have h_ := hsz hle_; rw [Int.one_mul] at h_; exact h_
    have hsy : (wrap64 (1 * 2 ^ min (n).toNat 64)) = S := (i64_w _).symm.trans hs_
    have hsx : (wrap64 (2 ^ min (n).toNat 64)) = S := (i64_w _).symm.trans hsu
    have sum := HEE.out.sum
    by_cases hrc : r = c'
    · as_aux_lemma =>
      subst hrc
      obtain rfl := HEE.out.eq rfl
      go_wp2
      go_ret
      exact ⟨rfl, by repeat (first | exact below_step BB.out X.out | apply pw_below_drewN)⟩
    · as_aux_lemma =>
      have hrc1 : (r == c') = false := beq_eq_false_iff_ne.2 hrc
      go_wp2
      go_ret
      exact ⟨rfl, by repeat (first | exact below_step BB.out X.out | apply pw_below_drewN)⟩
end Go.Proofs.Ytjajahofbhcioaa.Q

namespace Go.Proofs.Ytjajahofbhcioaa.Q
open Go.Proofs.Ytjajahofbhcioaa.Given Go.RowKit Go.Proofs.YtjajahofbhcioaaW.PrintWords Go.Proofs.YtjajahofbhcioaaW.PrintLast Go.Proofs.YtjajahofbhcioaaW.PrintMore
set_option linter.unusedVariables false
set_option linter.unusedSimpArgs false

set_option maxHeartbeats 64000000 in
set_option maxRecDepth 100000 in
theorem boards_3 (k : Nat) (a c : Int) (b : List Int) (p : Int) (mv : Int) (r c' who cnt : Int) (three : Bool) (l0 l1 : List Int) (a0 : Option Addr) (cap0 : Nat) (a1 : Option Addr) (cap1 : Nat) (w : World)
    (hr0 : Kd.C (Kd.int .u8) w a0 l0.length l0) (hc0 : l0.length ≤ cap0) (hr1 : Kd.C (Kd.int .u8) w a1 l1.length l1) (hc1 : l1.length ≤ cap1) (hbg : laws_big.f l0 l1 = some false) (hdr : spec_DrawWinsMoving.f k l0 = some (a, c, b, p))
    (hA : PlayA k a c b p false true mv false) (hB : PlayB k a c b p false true) (hD : PlayD k l1 r c' who cnt three) (hE : three = true → ∃ other n S, PlayE k r c' who cnt other n S) :
    Calls Try.prog 3 #[.slice a0 l0.length cap0, .slice a1 l1.length cap1] w fun e w' => e = .returned (.bool true) ∧ Below w.heap.size w w' := by
  have HR0 := Aside0.mk hr0
  have HC0 := Aside0.mk hc0
  have HR1 := Aside0.mk hr1
  have HC1 := Aside0.mk hc1
  have HBG := Aside0.mk hbg
  have HDR := Aside0.mk hdr
  have HA := Aside0.mk hA
  have HD := Aside0.mk hD
  have HE := Aside0.mk hE
  have HB := Aside0.mk hB
  clear hr0 hc0 hr1 hc1 hbg hdr hA hD hE hB
  go_enter Try.func3, Try.ntmps3
  go_wp2_with fail
  refine (laws_big.calls _ _ l0 _ _ l1 false _ (by repeat (first | exact HR0.out | apply Kd.C_drewN)) HC0.out (by repeat (first | exact HR1.out | apply Kd.C_drewN)) HC1.out HBG.out).mono ?_
  rintro e w1 ⟨rfl, ⟨q1, rfl⟩⟩
  go_wp2_with fail
  refine (spec_DrawWinsMoving.calls k _ _ l0 a c b p _ (by repeat (first | exact HR0.out | apply Kd.C_drewN)) HC0.out HDR.out).mono ?_
  rintro e W ⟨vb, rfl, RB, B2⟩
  obtain ⟨Ab, cb, rfl⟩ := Kd.R_slice RB
  have CB := Aside0.mk (Kd.R_reads' RB)
  have BB := Aside0.mk (show Below w.heap.size w W from below_step (by repeat (first | exact Below.refl _ _ | apply pw_below_drewN)) B2)
  have HR1 := Aside0.mk (Kd.C_below HR1.out BB.out)
  have X := Aside0.mk (Below.refl W.heap.size W)
  clear RB B2 HR0 HC0 HDR HBG
  go_wp2_with fail
  refine (impl_WinsMoving.calls k a c _ _ b p false true _ (by repeat (first | exact Kd.C_below CB.out.2.2 X.out | apply Kd.C_drewN)) CB.out.2.1 HA.out.wI).mono ?_
  rintro e w3 ⟨rfl, BX⟩
  have X := Aside0.mk (below_step (show Below W.heap.size W _ by repeat (first | exact X.out | apply pw_below_drewN)) BX)
  clear BX
  go_wp2_with fail
  refine (spec_WinsMoving.calls k a c _ _ b p false true _ (by repeat (first | exact Kd.C_below CB.out.2.2 X.out | apply Kd.C_drewN)) CB.out.2.1 HA.out.wS).mono ?_
  rintro e w4 ⟨rfl, BX⟩
  have X := Aside0.mk (below_step (show Below W.heap.size W _ by repeat (first | exact X.out | apply pw_below_drewN)) BX)
  clear BX
  go_wp2_with fail
  refine (impl_FirstWinningMove.calls k a c _ _ b p mv false _ (by repeat (first | exact Kd.C_below CB.out.2.2 X.out | apply Kd.C_drewN)) CB.out.2.1 HA.out.fI).mono ?_
  rintro e w5 ⟨rfl, BX⟩
  have X := Aside0.mk (below_step (show Below W.heap.size W _ by repeat (first | exact X.out | apply pw_below_drewN)) BX)
  clear BX
  go_wp2_with fail
  refine (spec_FirstWinningMove.calls k a c _ _ b p mv false _ (by repeat (first | exact Kd.C_below CB.out.2.2 X.out | apply Kd.C_drewN)) CB.out.2.1 HA.out.fS).mono ?_
  rintro e w6 ⟨rfl, BX⟩
  have X := Aside0.mk (below_step (show Below W.heap.size W _ by repeat (first | exact X.out | apply pw_below_drewN)) BX)
  clear BX
  go_wp2_with fail
  refine (impl_HasWon.calls k a c _ _ b p false true _ (by repeat (first | exact Kd.C_below CB.out.2.2 X.out | apply Kd.C_drewN)) CB.out.2.1 HB.out.hA).mono ?_
  rintro e w60 ⟨rfl, BX⟩
  have X := Aside0.mk (below_step (show Below W.heap.size W _ by repeat (first | exact X.out | apply pw_below_drewN)) BX)
  clear BX
  go_wp2_with fail
  refine (impl_HasWon.calls k a c _ _ b _ true true _ (by repeat (first | exact Kd.C_below CB.out.2.2 X.out | apply Kd.C_drewN)) CB.out.2.1 HB.out.hB).mono ?_
  rintro e w61 ⟨rfl, BX⟩
  have X := Aside0.mk (below_step (show Below W.heap.size W _ by repeat (first | exact X.out | apply pw_below_drewN)) BX)
  clear BX
  go_wp2_with fail
  refine (spec_DrawCountWins.calls _ _ l1 r c' who _ (by repeat (first | exact Kd.C_below HR1.out X.out | apply Kd.C_drewN)) HC1.out HD.out.dc).mono ?_
  rintro e w7 ⟨rfl, BX⟩
  have X := Aside0.mk (below_step (show Below W.heap.size W _ by repeat (first | exact X.out | apply pw_below_drewN)) BX)
  clear BX CB
  go_wp2_with fail
  refine (impl_CountWins.calls k r c' who cnt three _ HD.out.cI).mono ?_
  rintro e w8 ⟨rfl, BX⟩
  have X := Aside0.mk (below_step (show Below W.heap.size W _ by repeat (first | exact X.out | apply pw_below_drewN)) BX)
  clear BX
  go_wp2_with fail
  refine (spec_CountWins.calls k r c' who cnt three _ HD.out.cS).mono ?_
  rintro e w9 ⟨rfl, BX⟩
  have X := Aside0.mk (below_step (show Below W.heap.size W _ by repeat (first | exact X.out | apply pw_below_drewN)) BX)
  clear BX
  cases three with
  | false =>
    as_aux_lemma =>
    go_wp2
    go_ret
    exact ⟨rfl, by repeat (first | exact below_step BB.out X.out | apply pw_below_drewN)⟩
  | true =>
    as_aux_lemma =>
    obtain ⟨other, n, S, hE⟩ := HE.out rfl
    have HEE := Aside0.mk hE
    clear hE HE
    go_wp2_with fail
    refine (impl_CountWins.calls k r c' _ other true _ HEE.out.oI).mono ?_
    rintro e w10 ⟨rfl, BX⟩
    have X := Aside0.mk (below_step (show Below W.heap.size W _ by repeat (first | exact X.out | apply pw_below_drewN)) BX)
    clear BX
    go_wp2_with fail
    refine (impl_CountWins.calls k c' r _ cnt true _ HEE.out.tI).mono ?_
    rintro e w11 ⟨rfl, BX⟩
    have X := Aside0.mk (below_step (show Below W.heap.size W _ by repeat (first | exact X.out | apply pw_below_drewN)) BX)
    clear BX
    have hn := HEE.out.hn
    have hnw : (IntKind.i64.wrap (r * c')) = n := (i64_w _).trans hn
    have n0 := HEE.out.n0
    have n0b := eq_true n0
    have n0c : decide (0 ≤ n) = true := decide_eq_true n0
    have n0d : ¬ n < 0 := by omega
    have hs := HEE.out.hs
    have hs_ : (IntKind.i64.wrap (1 * 2 ^ min (n).toNat 64)) = S := hs
    have hsz : (n) ≤ 64 → (IntKind.i64.wrap (1 * 2 ^ (n).toNat)) = S := shl_small hs
    have hsu : (IntKind.i64.wrap (2 ^ min (n).toNat 64)) = S := by have h_ := hs_; rw [Int.one_mul] at h_; exact h_
    have hsv : (n) ≤ 64 → (IntKind.i64.wrap (2 ^ (n).toNat)) = S := fun hle_ => by have h_ := hsz hle_; rw [Int.one_mul] at h_; exact h_
    have hsy : (wrap64 (1 * 2 ^ min (n).toNat 64)) = S := (i64_w _).symm.trans hs_
    have hsx : (wrap64 (2 ^ min (n).toNat 64)) = S := (i64_w _).symm.trans hsu
    have sum := HEE.out.sum
    by_cases hrc : r = c'
    · as_aux_lemma =>
      subst hrc
      obtain rfl := HEE.out.eq rfl
      go_wp2
      go_ret
      exact ⟨rfl, by repeat (first | exact below_step BB.out X.out | apply pw_below_drewN)⟩
    · as_aux_lemma =>
      have hrc1 : (r == c') = false := beq_eq_false_iff_ne.2 hrc
      go_wp2
      go_ret
      exact ⟨rfl, by repeat (first | exact below_step BB.out X.out | apply pw_below_drewN)⟩
end Go.Proofs.Ytjajahofbhcioaa.Q

namespace Go.Proofs.Ytjajahofbhcioaa.Q
open Go.Proofs.Ytjajahofbhcioaa.Given Go.RowKit Go.Proofs.YtjajahofbhcioaaW.PrintWords Go.Proofs.YtjajahofbhcioaaW.PrintLast Go.Proofs.YtjajahofbhcioaaW.PrintMore
set_option linter.unusedVariables false
set_option linter.unusedSimpArgs false

set_option maxHeartbeats 64000000 in
set_option maxRecDepth 100000 in
theorem boards_4 (k : Nat) (a c : Int) (b : List Int) (p : Int) (mv : Int) (r c' who cnt : Int) (three : Bool) (l0 l1 : List Int) (a0 : Option Addr) (cap0 : Nat) (a1 : Option Addr) (cap1 : Nat) (w : World)
    (hr0 : Kd.C (Kd.int .u8) w a0 l0.length l0) (hc0 : l0.length ≤ cap0) (hr1 : Kd.C (Kd.int .u8) w a1 l1.length l1) (hc1 : l1.length ≤ cap1) (hbg : laws_big.f l0 l1 = some false) (hdr : spec_DrawWinsMoving.f k l0 = some (a, c, b, p))
    (hA : PlayA k a c b p false true mv false) (hB : PlayB k a c b p false false) (hD : PlayD k l1 r c' who cnt three) (hE : three = true → ∃ other n S, PlayE k r c' who cnt other n S) :
    Calls Try.prog 3 #[.slice a0 l0.length cap0, .slice a1 l1.length cap1] w fun e w' => e = .returned (.bool true) ∧ Below w.heap.size w w' := by
  have HR0 := Aside0.mk hr0
  have HC0 := Aside0.mk hc0
  have HR1 := Aside0.mk hr1
  have HC1 := Aside0.mk hc1
  have HBG := Aside0.mk hbg
  have HDR := Aside0.mk hdr
  have HA := Aside0.mk hA
  have HD := Aside0.mk hD
  have HE := Aside0.mk hE
  have HB := Aside0.mk hB
  clear hr0 hc0 hr1 hc1 hbg hdr hA hD hE hB
  go_enter Try.func3, Try.ntmps3
  go_wp2_with fail
  refine (laws_big.calls _ _ l0 _ _ l1 false _ (by repeat (first | exact HR0.out | apply Kd.C_drewN)) HC0.out (by repeat (first | exact HR1.out | apply Kd.C_drewN)) HC1.out HBG.out).mono ?_
  rintro e w1 ⟨rfl, ⟨q1, rfl⟩⟩
  go_wp2_with fail
  refine (spec_DrawWinsMoving.calls k _ _ l0 a c b p _ (by repeat (first | exact HR0.out | apply Kd.C_drewN)) HC0.out HDR.out).mono ?_
  rintro e W ⟨vb, rfl, RB, B2⟩
  obtain ⟨Ab, cb, rfl⟩ := Kd.R_slice RB
  have CB := Aside0.mk (Kd.R_reads' RB)
  have BB := Aside0.mk (show Below w.heap.size w W from below_step (by repeat (first | exact Below.refl _ _ | apply pw_below_drewN)) B2)
  have HR1 := Aside0.mk (Kd.C_below HR1.out BB.out)
  have X := Aside0.mk (Below.refl W.heap.size W)
  clear RB B2 HR0 HC0 HDR HBG
  go_wp2_with fail
  refine (impl_WinsMoving.calls k a c _ _ b p false true _ (by repeat (first | exact Kd.C_below CB.out.2.2 X.out | apply Kd.C_drewN)) CB.out.2.1 HA.out.wI).mono ?_
  rintro e w3 ⟨rfl, BX⟩
  have X := Aside0.mk (below_step (show Below W.heap.size W _ by repeat (first | exact X.out | apply pw_below_drewN)) BX)
  clear BX
  go_wp2_with fail
  refine (spec_WinsMoving.calls k a c _ _ b p false true _ (by repeat (first | exact Kd.C_below CB.out.2.2 X.out | apply Kd.C_drewN)) CB.out.2.1 HA.out.wS).mono ?_
  rintro e w4 ⟨rfl, BX⟩
  have X := Aside0.mk (below_step (show Below W.heap.size W _ by repeat (first | exact X.out | apply pw_below_drewN)) BX)
  clear BX
  go_wp2_with fail
  refine (impl_FirstWinningMove.calls k a c _ _ b p mv false _ (by repeat (first | exact Kd.C_below CB.out.2.2 X.out | apply Kd.C_drewN)) CB.out.2.1 HA.out.fI).mono ?_
  rintro e w5 ⟨rfl, BX⟩
  have X := Aside0.mk (below_step (show Below W.heap.size W _ by repeat (first | exact X.out | apply pw_below_drewN)) BX)
  clear BX
  go_wp2_with fail
  refine (spec_FirstWinningMove.calls k a c _ _ b p mv false _ (by repeat (first | exact Kd.C_below CB.out.2.2 X.out | apply Kd.C_drewN)) CB.out.2.1 HA.out.fS).mono ?_
  rintro e w6 ⟨rfl, BX⟩
  have X := Aside0.mk (below_step (show Below W.heap.size W _ by repeat (first | exact X.out | apply pw_below_drewN)) BX)
  clear BX
  go_wp2_with fail
  refine (impl_HasWon.calls k a c _ _ b p false true _ (by repeat (first | exact Kd.C_below CB.out.2.2 X.out | apply Kd.C_drewN)) CB.out.2.1 HB.out.hA).mono ?_
  rintro e w60 ⟨rfl, BX⟩
  have X := Aside0.mk (below_step (show Below W.heap.size W _ by repeat (first | exact X.out | apply pw_below_drewN)) BX)
  clear BX
  go_wp2_with fail
  refine (impl_HasWon.calls k a c _ _ b _ false true _ (by repeat (first | exact Kd.C_below CB.out.2.2 X.out | apply Kd.C_drewN)) CB.out.2.1 HB.out.hB).mono ?_
  rintro e w61 ⟨rfl, BX⟩
  have X := Aside0.mk (below_step (show Below W.heap.size W _ by repeat (first | exact X.out | apply pw_below_drewN)) BX)
  clear BX
  go_wp2_with fail
  refine (spec_DrawCountWins.calls _ _ l1 r c' who _ (by repeat (first | exact Kd.C_below HR1.out X.out | apply Kd.C_drewN)) HC1.out HD.out.dc).mono ?_
  rintro e w7 ⟨rfl, BX⟩
  have X := Aside0.mk (below_step (show Below W.heap.size W _ by repeat (first | exact X.out | apply pw_below_drewN)) BX)
  clear BX CB
  go_wp2_with fail
  refine (impl_CountWins.calls k r c' who cnt three _ HD.out.cI).mono ?_
  rintro e w8 ⟨rfl, BX⟩
  have X := Aside0.mk (below_step (show Below W.heap.size W _ by repeat (first | exact X.out | apply pw_below_drewN)) BX)
  clear BX
  go_wp2_with fail
  refine (spec_CountWins.calls k r c' who cnt three _ HD.out.cS).mono ?_
  rintro e w9 ⟨rfl, BX⟩
  have X := Aside0.mk (below_step (show Below W.heap.size W _ by repeat (first | exact X.out | apply pw_below_drewN)) BX)
  clear BX
  cases three with
  | false =>
    as_aux_lemma =>
    go_wp2
    go_ret
    exact ⟨rfl, by repeat (first | exact below_step BB.out X.out | apply pw_below_drewN)⟩
  | true =>
    as_aux_lemma =>
    obtain ⟨other, n, S, hE⟩ := HE.out rfl
    have HEE := Aside0.mk hE
    clear hE HE
    go_wp2_with fail
    refine (impl_CountWins.calls k r c' _ other true _ HEE.out.oI).mono ?_
    rintro e w10 ⟨rfl, BX⟩
    have X := Aside0.mk (below_step (show Below W.heap.size W _ by repeat (first | exact X.out | apply pw_below_drewN)) BX)
    clear BX
    go_wp2_with fail
    refine (impl_CountWins.calls k c' r _ cnt true _ HEE.out.tI).mono ?_
    rintro e w11 ⟨rfl, BX⟩
    have X := Aside0.mk (below_step (show Below W.heap.size W _ by repeat (first | exact X.out | apply pw_below_drewN)) BX)
    clear BX
    have hn := HEE.out.hn
    have hnw : (IntKind.i64.wrap (r * c')) = n := (i64_w _).trans hn
    have n0 := HEE.out.n0
    have n0b := eq_true n0
    have n0c : decide (0 ≤ n) = true := decide_eq_true n0
    have n0d : ¬ n < 0 := by omega
    have hs := HEE.out.hs
    have hs_ : (IntKind.i64.wrap (1 * 2 ^ min (n).toNat 64)) = S := hs
    have hsz : (n) ≤ 64 → (IntKind.i64.wrap (1 * 2 ^ (n).toNat)) = S := shl_small hs
    have hsu : (IntKind.i64.wrap (2 ^ min (n).toNat 64)) = S := by have h_ := hs_; rw [Int.one_mul] at h_; exact h_
    have hsv : (n) ≤ 64 → (IntKind.i64.wrap (2 ^ (n).toNat)) = S := fun hle_ => by have h_ := hsz hle_; rw [Int.one_mul] at h_; exact h_
    have hsy : (wrap64 (1 * 2 ^ min (n).toNat 64)) = S := (i64_w _).symm.trans hs_
    have hsx : (wrap64 (2 ^ min (n).toNat 64)) = S := (i64_w _).symm.trans hsu
    have sum := HEE.out.sum
    by_cases hrc : r = c'
    · as_aux_lemma =>
      subst hrc
      obtain rfl := HEE.out.eq rfl
      go_wp2
      go_ret
      exact ⟨rfl, by repeat (first | exact below_step BB.out X.out | apply pw_below_drewN)⟩
    · as_aux_lemma =>
      have hrc1 : (r == c') = false := beq_eq_false_iff_ne.2 hrc
      go_wp2
      go_ret
      exact ⟨rfl, by repeat (first | exact below_step BB.out X.out | apply pw_below_drewN)⟩
end Go.Proofs.Ytjajahofbhcioaa.Q

namespace Go.Proofs.Ytjajahofbhcioaa.Q
open Go.Proofs.Ytjajahofbhcioaa.Given Go.RowKit Go.Proofs.YtjajahofbhcioaaW.PrintWords Go.Proofs.YtjajahofbhcioaaW.PrintLast Go.Proofs.YtjajahofbhcioaaW.PrintMore
set_option linter.unusedVariables false
set_option linter.unusedSimpArgs false

set_option maxHeartbeats 64000000 in
set_option maxRecDepth 100000 in
theorem boards_5 (k : Nat) (a c : Int) (b : List Int) (p : Int) (m : Nat) (r c' who cnt : Int) (three : Bool) (l0 l1 : List Int) (a0 : Option Addr) (cap0 : Nat) (a1 : Option Addr) (cap1 : Nat) (w : World)
    (hr0 : Kd.C (Kd.int .u8) w a0 l0.length l0) (hc0 : l0.length ≤ cap0) (hr1 : Kd.C (Kd.int .u8) w a1 l1.length l1) (hc1 : l1.length ≤ cap1) (hbg : laws_big.f l0 l1 = some false) (hdr : spec_DrawWinsMoving.f k l0 = some (a, c, b, p))
    (hA : PlayA k a c b p true true (m : Int) true) (hB : PlayB k a c b p false false) (hC : PlayC k a c b p m) (hD : PlayD k l1 r c' who cnt three) (hE : three = true → ∃ other n S, PlayE k r c' who cnt other n S) :
    Calls Try.prog 3 #[.slice a0 l0.length cap0, .slice a1 l1.length cap1] w fun e w' => e = .returned (.bool true) ∧ Below w.heap.size w w' := by
  have HR0 := Aside0.mk hr0
  have HC0 := Aside0.mk hc0
  have HR1 := Aside0.mk hr1
  have HC1 := Aside0.mk hc1
  have HBG := Aside0.mk hbg
  have HDR := Aside0.mk hdr
  have HA := Aside0.mk hA
  have HD := Aside0.mk hD
  have HE := Aside0.mk hE
  have HB := Aside0.mk hB
  have HC := Aside0.mk hC
  clear hr0 hc0 hr1 hc1 hbg hdr hA hD hE hB hC
  go_enter Try.func3, Try.ntmps3
  go_wp2_with fail
  refine (laws_big.calls _ _ l0 _ _ l1 false _ (by repeat (first | exact HR0.out | apply Kd.C_drewN)) HC0.out (by repeat (first | exact HR1.out | apply Kd.C_drewN)) HC1.out HBG.out).mono ?_
  rintro e w1 ⟨rfl, ⟨q1, rfl⟩⟩
  go_wp2_with fail
  refine (spec_DrawWinsMoving.calls k _ _ l0 a c b p _ (by repeat (first | exact HR0.out | apply Kd.C_drewN)) HC0.out HDR.out).mono ?_
  rintro e W ⟨vb, rfl, RB, B2⟩
  obtain ⟨Ab, cb, rfl⟩ := Kd.R_slice RB
  have CB := Aside0.mk (Kd.R_reads' RB)
  have BB := Aside0.mk (show Below w.heap.size w W from below_step (by repeat (first | exact Below.refl _ _ | apply pw_below_drewN)) B2)
  have HR1 := Aside0.mk (Kd.C_below HR1.out BB.out)
  have X := Aside0.mk (Below.refl W.heap.size W)
  clear RB B2 HR0 HC0 HDR HBG
  go_wp2_with fail
  refine (impl_WinsMoving.calls k a c _ _ b p true true _ (by repeat (first | exact Kd.C_below CB.out.2.2 X.out | apply Kd.C_drewN)) CB.out.2.1 HA.out.wI).mono ?_
  rintro e w3 ⟨rfl, BX⟩
  have X := Aside0.mk (below_step (show Below W.heap.size W _ by repeat (first | exact X.out | apply pw_below_drewN)) BX)
  clear BX
  go_wp2_with fail
  refine (spec_WinsMoving.calls k a c _ _ b p true true _ (by repeat (first | exact Kd.C_below CB.out.2.2 X.out | apply Kd.C_drewN)) CB.out.2.1 HA.out.wS).mono ?_
  rintro e w4 ⟨rfl, BX⟩
  have X := Aside0.mk (below_step (show Below W.heap.size W _ by repeat (first | exact X.out | apply pw_below_drewN)) BX)
  clear BX
  go_wp2_with fail
  refine (impl_FirstWinningMove.calls k a c _ _ b p (m : Int) true _ (by repeat (first | exact Kd.C_below CB.out.2.2 X.out | apply Kd.C_drewN)) CB.out.2.1 HA.out.fI).mono ?_
  rintro e w5 ⟨rfl, BX⟩
  have X := Aside0.mk (below_step (show Below W.heap.size W _ by repeat (first | exact X.out | apply pw_below_drewN)) BX)
  clear BX
  go_wp2_with fail
  refine (spec_FirstWinningMove.calls k a c _ _ b p (m : Int) true _ (by repeat (first | exact Kd.C_below CB.out.2.2 X.out | apply Kd.C_drewN)) CB.out.2.1 HA.out.fS).mono ?_
  rintro e w6 ⟨rfl, BX⟩
  have X := Aside0.mk (below_step (show Below W.heap.size W _ by repeat (first | exact X.out | apply pw_below_drewN)) BX)
  clear BX
  go_wp2_with fail
  refine (impl_HasWon.calls k a c _ _ b p false true _ (by repeat (first | exact Kd.C_below CB.out.2.2 X.out | apply Kd.C_drewN)) CB.out.2.1 HB.out.hA).mono ?_
  rintro e w60 ⟨rfl, BX⟩
  have X := Aside0.mk (below_step (show Below W.heap.size W _ by repeat (first | exact X.out | apply pw_below_drewN)) BX)
  clear BX
  go_wp2_with fail
  refine (impl_HasWon.calls k a c _ _ b _ false true _ (by repeat (first | exact Kd.C_below CB.out.2.2 X.out | apply Kd.C_drewN)) CB.out.2.1 HB.out.hB).mono ?_
  rintro e w61 ⟨rfl, BX⟩
  have X := Aside0.mk (below_step (show Below W.heap.size W _ by repeat (first | exact X.out | apply pw_below_drewN)) BX)
  clear BX
  have hlen := HA.out.len
  go_wp2
  go_loopg [21] (m + 1) (fun gg s21 wr => ∃ t : Nat, s21 = .int .i64 t ∧ t ≤ m + 1 ∧ m + 1 - t ≤ gg ∧ Aside0 (Below W.heap.size W wr))
  case atStart => exact ⟨0, rfl, Nat.zero_le _, by omega, ⟨by repeat (first | exact X.out | apply pw_below_drewN)⟩⟩
  case round =>
    obtain ⟨t, rfl, ht, hgg, BW⟩ := hrel
    have hm1 := HC.out.m1
    by_cases hlt : t ≤ m
    · as_aux_lemma =>
      have hltm : (t : Int) ≤ (m : Int) := by omega
      have hltz : (t : Int) < (b.length : Int) := by omega
      have hm0 : (0 : Int) ≤ (t : Int) := by omega
      obtain ⟨ad, e1, hx⟩ := Kd.at_int (Kd.C_below CB.out.2.2 BW.out) (t : Int) hm0 hltz
      cases e1
      rw [Int.toNat_natCast] at hx
      have hse := HC.out.each t hlt
      generalize hy : rd b (t : Int) = y at hx hse
      clear hy
      by_cases h0 : y = 0
      · as_aux_lemma =>
        subst h0
        have hc := hse rfl
        have hsl : (b.set t p).length = b.length := List.length_set
        clear hse
        generalize hYY : b.set t p = Y at hc hsl
        have HY := Aside0.mk hYY
        have HC2 := Aside0.mk hc
        clear hc hYY hsl
        generalize hdd : decide ((t : Int) < (m : Int)) = dd at HC2
        go_wp2_with (first | (at_builtin; go_loud (refine Kd.R_append_rows (Kd.int .i64) (w0 := W) W.heap.size rfl (.tmp 164) (.tmp 165) 24 3 (.int .i64 0) 8 rfl Try.underlying24 infoC rfl (by decide) (by omega) (.slice (some ⟨_, 0, none⟩) 0 0) [] b _ _ _ (fun _ => True) (fun _ => False) rfl rfl ?aO ?aR (fun _ _ h => h) (fun _ h => h.elim) ?aF ?aB ?aS ?aL ?_; (case aF => exact (fun k_ hk => trivial)); (case aO => exact lit0c _ W.heap.size (fun _ => True) (below_size (by repeat (first | exact BW.out | apply pw_below_drewN))) trivial); (case aR => exact Kd.C_alloc (by repeat (first | exact Kd.C_below CB.out.2.2 BW.out | apply Kd.C_drewN)) _); (case aB => exact below_alloc (by repeat (first | exact BW.out | apply pw_below_drewN)) _); (case aS => exact below_size (below_alloc (by repeat (first | exact BW.out | apply pw_below_drewN)) _)); (case aL => simp; omega); intro v1 w11 ho hb hg hat; clear hg hat; rw [List.nil_append] at ho; have BW1 := Aside0.mk hb; obtain ⟨gA, cA, eA, gbA, glA, clA, HGA⟩ := Kd.R_form ho (by omega); cases eA; have GBA := Aside0.mk gbA; obtain ⟨hx9, hf9⟩ := Kd.R_celln 0 ho (t : Int) hm0 hltz; have HP := Kd.R_putg ho (t : Int) p; rw [Int.toNat_natCast] at hx9 hf9 HP; clear ho hb gbA glA clA HGA)) | ((with_reducible refine gate_store (t := 3) (p := 170) rfl ?_); refine store_event (t := 3) (p := 170) (v := ?vo_w12) (w1 := (w11.setCell ⟨gA, t, none⟩ (.int .i64 p))) ?hg ?ho ?hn ?hr ?_; (case ho => rfl); (case hg => rfl); (case hn => rfl); (case hr => first | (go_simp; done) | (go_simp; rfl)); intro w12 hw; have hp_ : Kd.R (Kd.int .i64) 3 w12 W.heap.size (fun _ => True) (.slice (some ⟨gA, 0, none⟩) b.length cA) Y := (by rw [hw, ← HY.out]; exact HP.1); have BW2 := Aside0.mk ((by rw [hw]; exact below_set BW1.out GBA.out : Below W.heap.size W w12)); clear HP hw; generalize (Value.slice (some ⟨gA, 0, none⟩) b.length cA) = v2 at hp_ ⊢; obtain ⟨A2, c2, rfl⟩ := Kd.R_slice hp_; have CY := Aside0.mk (Kd.R_reads' hp_); clear hp_ hx9 hf9))
        refine (impl_WinsMoving.calls k a c _ _ Y _ dd true _ (by repeat (first | exact CY.out.2.2 | apply Kd.C_drewN)) CY.out.2.1 HC2.out).mono ?_
        rintro e w13 ⟨rfl, BX⟩
        have BW3 := Aside0.mk (below_step (show Below W.heap.size W _ by repeat (first | exact BW2.out | apply pw_below_drewN)) BX)
        clear BX CY HC2 HY BW BW1 BW2
        by_cases htm : (t : Int) < (m : Int)
        · as_aux_lemma =>
          obtain rfl : dd = true := by rw [← hdd]; exact decide_eq_true htm
          go_wp2
          go_roundg (m + 1 - (t + 1))
          case measure => omega
          case rel => exact ⟨t + 1, by go_num, by omega, Nat.le_refl _, ⟨by repeat (first | exact BW3.out | apply pw_below_drewN)⟩⟩
        · as_aux_lemma =>
          obtain rfl : dd = false := by rw [← hdd]; exact decide_eq_false htm
          go_wp2
          go_roundg (m + 1 - (t + 1))
          case measure => omega
          case rel => exact ⟨t + 1, by go_num, by omega, Nat.le_refl _, ⟨by repeat (first | exact BW3.out | apply pw_below_drewN)⟩⟩
      · as_aux_lemma =>
        have h0b : (y == 0) = false := beq_eq_false_iff_ne.2 h0
        have h0c : (y != 0) = true := bne_iff_ne.2 h0
        clear hse
        go_wp2
        go_roundg (m + 1 - (t + 1))
        case measure => omega
        case rel => exact ⟨t + 1, by go_num, by omega, Nat.le_refl _, ⟨by repeat (first | exact BW.out | apply pw_below_drewN)⟩⟩
    · as_aux_lemma =>
      have hltz : ¬ (t : Int) ≤ (m : Int) := by omega
      have hltd : decide ((t : Int) ≤ (m : Int)) = false := decide_eq_false hltz
      have X := Aside0.mk BW.out
      clear BW ht hgg hm1 hlt hlen
      go_wp2_with fail
      refine (spec_DrawCountWins.calls _ _ l1 r c' who _ (by repeat (first | exact Kd.C_below HR1.out X.out | apply Kd.C_drewN)) HC1.out HD.out.dc).mono ?_
      rintro e w7 ⟨rfl, BX⟩
      have X := Aside0.mk (below_step (show Below W.heap.size W _ by repeat (first | exact X.out | apply pw_below_drewN)) BX)
      clear BX CB
      go_wp2_with fail
      refine (impl_CountWins.calls k r c' who cnt three _ HD.out.cI).mono ?_
      rintro e w8 ⟨rfl, BX⟩
      have X := Aside0.mk (below_step (show Below W.heap.size W _ by repeat (first | exact X.out | apply pw_below_drewN)) BX)
      clear BX
      go_wp2_with fail
      refine (spec_CountWins.calls k r c' who cnt three _ HD.out.cS).mono ?_
      rintro e w9 ⟨rfl, BX⟩
      have X := Aside0.mk (below_step (show Below W.heap.size W _ by repeat (first | exact X.out | apply pw_below_drewN)) BX)
      clear BX
      cases three with
      | false =>
        as_aux_lemma =>
        go_wp2
        go_ret
        exact ⟨rfl, by repeat (first | exact below_step BB.out X.out | apply pw_below_drewN)⟩
      | true =>
        as_aux_lemma =>
        obtain ⟨other, n, S, hE⟩ := HE.out rfl
        have HEE := Aside0.mk hE
        clear hE HE
        go_wp2_with fail
        refine (impl_CountWins.calls k r c' _ other true _ HEE.out.oI).mono ?_
        rintro e w10 ⟨rfl, BX⟩
        have X := Aside0.mk (below_step (show Below W.heap.size W _ by repeat (first | exact X.out | apply pw_below_drewN)) BX)
        clear BX
        go_wp2_with fail
        refine (impl_CountWins.calls k c' r _ cnt true _ HEE.out.tI).mono ?_
        rintro e w11 ⟨rfl, BX⟩
        have X := Aside0.mk (below_step (show Below W.heap.size W _ by repeat (first | exact X.out | apply pw_below_drewN)) BX)
        clear BX
        have hn := HEE.out.hn
        have hnw : (IntKind.i64.wrap (r * c')) = n := (i64_w _).trans hn
        have n0 := HEE.out.n0
        have n0b := eq_true n0
        have n0c : decide (0 ≤ n) = true := decide_eq_true n0
        have n0d : ¬ n < 0 := by omega
        have hs := HEE.out.hs
        have hs_ : (IntKind.i64.wrap (1 * 2 ^ min (n).toNat 64)) = S := hs
        have hsz : (n) ≤ 64 → (IntKind.i64.wrap (1 * 2 ^ (n).toNat)) = S := shl_small hs
        have hsu : (IntKind.i64.wrap (2 ^ min (n).toNat 64)) = S := by have h_ := hs_; rw [Int.one_mul] at h_; exact h_
        have hsv : (n) ≤ 64 → (IntKind.i64.wrap (2 ^ (n).toNat)) = S := fun hle_ => by have h_ := hsz hle_; rw [Int.one_mul] at h_; exact h_
        have hsy : (wrap64 (1 * 2 ^ min (n).toNat 64)) = S := (i64_w _).symm.trans hs_
        have hsx : (wrap64 (2 ^ min (n).toNat 64)) = S := (i64_w _).symm.trans hsu
        have sum := HEE.out.sum
        by_cases hrc : r = c'
        · as_aux_lemma =>
          subst hrc
          obtain rfl := HEE.out.eq rfl
          go_wp2
          go_ret
          exact ⟨rfl, by repeat (first | exact below_step BB.out X.out | apply pw_below_drewN)⟩
        · as_aux_lemma =>
          have hrc1 : (r == c') = false := beq_eq_false_iff_ne.2 hrc
          go_wp2
          go_ret
          exact ⟨rfl, by repeat (first | exact below_step BB.out X.out | apply pw_below_drewN)⟩
end Go.Proofs.Ytjajahofbhcioaa.Q

namespace Go.Proofs.Ytjajahofbhcioaa.Q
open Go.Proofs.Ytjajahofbhcioaa.Given Go.RowKit Go.Proofs.YtjajahofbhcioaaW.PrintWords Go.Proofs.YtjajahofbhcioaaW.PrintLast Go.Proofs.YtjajahofbhcioaaW.PrintMore
set_option linter.unusedVariables false
set_option linter.unusedSimpArgs false

set_option maxHeartbeats 4000000 in
set_option maxRecDepth 100000 in
theorem laws_FnBoardsPlayed.walk (P : laws_FnBoardsPlayed.Pure) (a0 : Option Addr) (len0 cap0 : Nat) (z0 : List Int) (a1 : Option Addr) (len1 cap1 : Nat) (z1 : List Int) (w : World) (w0 : (a0 = none ∧ len0 = 0 ∧ cap0 = 0 ∧ z0 = []) ∨ ∃ x, a0 = some x ∧ len0 ≤ cap0 ∧ cap0 ≤ maxLen ∧ z0.length = cap0 ∧ (∀ i, i < z0.length → w.cell? (x.add i) = some (.int .u8 (z0.getD i 0))) ∧ ∀ n ∈ z0, (Lit.int .u8 n).wf = true) (y0 : len0 * 1 ≤ 140737488351232) (w1 : (a1 = none ∧ len1 = 0 ∧ cap1 = 0 ∧ z1 = []) ∨ ∃ x, a1 = some x ∧ len1 ≤ cap1 ∧ cap1 ≤ maxLen ∧ z1.length = cap1 ∧ (∀ i, i < z1.length → w.cell? (x.add i) = some (.int .u8 (z1.getD i 0))) ∧ ∀ n ∈ z1, (Lit.int .u8 n).wf = true) (y1 : len1 * 1 ≤ 140737488351232) :
    Calls Try.prog 3 #[.slice a0 len0 cap0, .slice a1 len1 cap1] w fun e w' => e = .returned (.bool true) ∧ Below w.heap.size w w' := by
  obtain ⟨l0, rfl, hr0, hm0, hw0, hc0⟩ := ReadsInt.ofRowC w0
  obtain ⟨l1, rfl, hr1, hm1, hw1, hc1⟩ := ReadsInt.ofRowC w1
  have hr0 := Kd.C_of_reads (d := (0 : Int)) (h1 := fun _ => rfl) hr0
  have hr1 := Kd.C_of_reads (d := (0 : Int)) (h1 := fun _ => rfl) hr1
  obtain ⟨k, a, c, b, p, wins, ok, mv, one, r, c', who, cnt, three, hdr, hA, hF, hD, hE⟩ := P l0 l1 hw0 hw1
  obtain ⟨bg, hbg⟩ : ∃ b, laws_big.f l0 l1 = some b := by unfold laws_big.f; split <;> exact ⟨_, rfl⟩
  clear w0 w1 hw0 hw1 hm0 hm1 y0 y1 P
  cases bg with
  | true =>
    have HR0 := Aside0.mk hr0
    have HC0 := Aside0.mk hc0
    have HR1 := Aside0.mk hr1
    have HC1 := Aside0.mk hc1
    have HBG := Aside0.mk hbg
    clear hdr hA hF hD hE hr0 hr1 hc0 hc1 hbg
    go_enter Try.func3, Try.ntmps3
    go_wp2_with fail
    refine (laws_big.calls _ _ l0 _ _ l1 true _ (by repeat (first | exact HR0.out | apply Kd.C_drewN)) HC0.out (by repeat (first | exact HR1.out | apply Kd.C_drewN)) HC1.out HBG.out).mono ?_
    rintro e w1 ⟨rfl, ⟨q1, rfl⟩⟩
    go_wp2
    go_ret
    exact ⟨rfl, by repeat (first | exact Below.refl _ _ | apply pw_below_drewN)⟩
  | false =>
    cases hF with
    | no wins mv => exact boards_1 k a c b p wins mv r c' who cnt three l0 l1 _ _ _ _ w hr0 hc0 hr1 hc1 hbg hdr hA hD hE
    | won mv hB => exact boards_2 k a c b p mv r c' who cnt three l0 l1 _ _ _ _ w hr0 hc0 hr1 hc1 hbg hdr hA hB hD hE
    | lost mv hB => exact boards_3 k a c b p mv r c' who cnt three l0 l1 _ _ _ _ w hr0 hc0 hr1 hc1 hbg hdr hA hB hD hE
    | bad mv hB => exact boards_4 k a c b p mv r c' who cnt three l0 l1 _ _ _ _ w hr0 hc0 hr1 hc1 hbg hdr hA hB hD hE
    | good m hB hC => exact boards_5 k a c b p m r c' who cnt three l0 l1 _ _ _ _ w hr0 hc0 hr1 hc1 hbg hdr hA hB hC hD hE
end Go.Proofs.Ytjajahofbhcioaa.Q
