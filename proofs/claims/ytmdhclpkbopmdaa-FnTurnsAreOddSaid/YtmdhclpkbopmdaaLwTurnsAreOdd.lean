/- The walk of the law FnTurnsAreOdd by hand (its printed proof does not end); for all bytes. -/
import Derived.Test.YtmdhclpkbopmdaaGj
import Derived.Test.YtmdhclpkbopmdaaGy
import Derived.Test.YtmdhclpkbopmdaaQx1
import Derived.Test.YtmdhclpkbopmdaaQx11
import Derived.Test.YtmdhclpkbopmdaaQx7
import Derived.Test.YtmdhclpkbopmdaaQx4
import Derived.Test.YtmdhclpkbopmdaaQx5
import Derived.Test.YtmdhclpkbopmdaaQx9
import Derived.Test.YtmdhclpkbopmdaaQx10
import Derived.Lib.Walk
import Derived.Outline
namespace Go.Proofs.Ytmdhclpkbopmdaa.Q
open Go.Proofs.Ytmdhclpkbopmdaa.Given Go.RowKit Go.Proofs.YtmdhclpkbopmdaaW.PrintWords Go.Proofs.YtmdhclpkbopmdaaW.PrintLast Go.Proofs.YtmdhclpkbopmdaaW.PrintMore
set_option linter.unusedVariables false
set_option linter.unusedSimpArgs false

/-- The directions of the first m doors. -/
def turnsSum (l : List Int) (ds : List (List Int)) : Nat → Int
  | 0 => 0
  | m + 1 => wrap64 (turnsSum l ds m + wrap64 (rd l (rd (rd_L3 ds m) 1) - rd l (rd (rd_L3 ds m) 0)))
/-- What is so of signs. -/
structure TurnsYes (k : Nat) (n : Int) (lab : List Int) (t : Int) (ok op : Bool) (o nx : List Int) (ds : List (List Int)) : Prop where
  it : impl_SquareTurns.f k n lab = some (t, ok)
  st : spec_SquareTurns.f k n lab = some (t, ok)
  ng : impl_NegateLabels.f n lab = some (o, true)
  sn : spec_NegateLabels.f k n lab = some (o, true)
  ad : impl_AddTurn.f n lab = some (nx, true)
  sa : spec_AddTurn.f k n lab = some (nx, true)
  uo : laws_uSame.f k o o = some true
  un : laws_uSame.f k nx nx = some true
  ul : laws_uSame.f k lab lab = some true
  nn : impl_NegateLabels.f n o = some (lab, true)
  aa : impl_AddTurn.f n nx = some (o, true)
  tO : impl_SquareTurns.f k n o = some (t, ok)
  tN : impl_SquareTurns.f k n nx = some (t, ok)
  aL : impl_AreOpposite.f k n lab = some (op, true)
  aN : impl_AreOpposite.f k n nx = some (op, true)
  odd : ok = true → op = true → (Int.tmod t 2 == 0) = false
  dd : ok = true → impl_SquareDoors.f k n lab = some (ds, true)
  din : ok = true → ∀ x ∈ ds, stepIn lab x
  dle : ok = true → ds.length ≤ 80
  sum : ok = true → turnsSum lab ds ds.length = t
structure TurnsNo (k : Nat) (n : Int) (lab : List Int) : Prop where
  it : impl_SquareTurns.f k n lab = some (0, false)
  st : spec_SquareTurns.f k n lab = some (0, false)
  ng : impl_NegateLabels.f n lab = some ([], false)
  sn : spec_NegateLabels.f k n lab = some ([], false)
  ad : impl_AddTurn.f n lab = some ([], false)
  sa : spec_AddTurn.f k n lab = some ([], false)
  uu : laws_uSame.f k [] [] = some true
theorem wrapS (m : Nat) (h : m ≤ 80) : wrap64 ((m : Int) + 1) = (m : Int) + 1 := by unfold wrap64; omega
theorem meas (d m : Nat) (x : Int) (hx : x = (m : Int) + 1) (h : m < d) : d - (intOf (.int .i64 x)).toNat < d - (intOf (.int .i64 (m : Int))).toNat := by
  subst hx
  show d - ((m : Int) + 1).toNat < d - (m : Int).toNat
  omega
def laws_FnTurnsAreOdd.Pure : Prop := ∀ (l0 : List Int), (∀ x ∈ l0, (Lit.int .u8 x).wf = true) → ∃ (k : Nat) (n : Int) (lab : List Int), spec_DrawSquareTurns.f k l0 = some (n, lab) ∧ (TurnsNo k n lab ∨ ∃ t ok op o nx ds, TurnsYes k n lab t ok op o nx ds)

set_option maxHeartbeats 16000000 in
set_option maxRecDepth 100000 in
theorem laws_FnTurnsAreOdd.walk (P : laws_FnTurnsAreOdd.Pure) (a0 : Option Addr) (len0 cap0 : Nat) (z0 : List Int) (a1 : Option Addr) (len1 cap1 : Nat) (z1 : List Int) (w : World) (w0 : (a0 = none ∧ len0 = 0 ∧ cap0 = 0 ∧ z0 = []) ∨ ∃ x, a0 = some x ∧ len0 ≤ cap0 ∧ cap0 ≤ maxLen ∧ z0.length = cap0 ∧ (∀ i, i < z0.length → w.cell? (x.add i) = some (.int .u8 (z0.getD i 0))) ∧ ∀ n ∈ z0, (Lit.int .u8 n).wf = true) (y0 : len0 * 1 ≤ 140737488351232) (w1 : (a1 = none ∧ len1 = 0 ∧ cap1 = 0 ∧ z1 = []) ∨ ∃ x, a1 = some x ∧ len1 ≤ cap1 ∧ cap1 ≤ maxLen ∧ z1.length = cap1 ∧ (∀ i, i < z1.length → w.cell? (x.add i) = some (.int .u8 (z1.getD i 0))) ∧ ∀ n ∈ z1, (Lit.int .u8 n).wf = true) (y1 : len1 * 1 ≤ 140737488351232) :
    Calls Try.prog 14 #[.slice a0 len0 cap0, .slice a1 len1 cap1] w fun e w' => e = .returned (.bool true) ∧ Below w.heap.size w w' := by
  obtain ⟨l0, rfl, hr0, hm0, hw0, hc0⟩ := ReadsInt.ofRowC w0
  obtain ⟨l1, rfl, hr1, hm1, hw1, hc1⟩ := ReadsInt.ofRowC w1
  have HR0 := Aside0.mk (Kd.C_of_reads (d := (0 : Int)) (h1 := fun _ => rfl) hr0)
  have HR1 := Aside0.mk (Kd.C_of_reads (d := (0 : Int)) (h1 := fun _ => rfl) hr1)
  have HC0 := Aside0.mk hc0
  have HC1 := Aside0.mk hc1
  obtain ⟨k, n, lab, hdr, hP⟩ := P l0 hw0
  have HD := Aside0.mk hdr
  obtain ⟨bg, hbg⟩ : ∃ b, laws_big.f l0 l1 = some b := by unfold laws_big.f; split <;> exact ⟨_, rfl⟩
  have HBG := Aside0.mk hbg
  have HPP := Aside0.mk hP
  clear w0 w1 hr0 hr1 hc0 hc1 hw0 hw1 hm0 hm1 y0 y1 hdr hbg hP P
  go_enter Try.func14, Try.ntmps14
  cases bg with
  | true =>
    as_aux_lemma =>
    go_wp2_with fail
    refine (laws_big.calls _ _ l0 _ _ l1 true _ (by repeat (first | exact HR0.out | apply Kd.C_drewN)) HC0.out (by repeat (first | exact HR1.out | apply Kd.C_drewN)) HC1.out HBG.out).mono ?_
    rintro e w1 ⟨rfl, ⟨q1, rfl⟩⟩
    go_wp2
    go_ret
    exact ⟨rfl, by repeat (first | exact Below.refl _ _ | apply pw_below_drewN)⟩
  | false =>
    go_wp2_with fail
    refine (laws_big.calls _ _ l0 _ _ l1 false _ (by repeat (first | exact HR0.out | apply Kd.C_drewN)) HC0.out (by repeat (first | exact HR1.out | apply Kd.C_drewN)) HC1.out HBG.out).mono ?_
    rintro e w1 ⟨rfl, ⟨q1, rfl⟩⟩
    go_wp2_with fail
    refine (spec_DrawSquareTurns.calls k _ _ l0 n lab _ (by repeat (first | exact HR0.out | apply Kd.C_drewN)) HC0.out HD.out).mono ?_
    rintro e w2 ⟨vl, rfl, RL, B2⟩
    obtain ⟨Al, cl, rfl⟩ := Kd.R_slice RL
    have CL := Aside0.mk (Kd.R_reads' RL)
    have BB := Aside0.mk (show Below w.heap.size w w2 from below_step (by repeat (first | exact Below.refl _ _ | apply pw_below_drewN)) B2)
    clear RL B2
    rcases HPP.out with N | ⟨t, ok, op, o, nx, ds, Y⟩
    · as_aux_lemma =>
      have N := Aside0.mk N
      clear HPP
      go_wp2_with fail
      refine (impl_SquareTurns.calls k n _ _ lab 0 false _ (by repeat (first | exact CL.out.2.2 | apply Kd.C_drewN)) CL.out.2.1 N.out.it).mono ?_
      rintro e w3 ⟨rfl, BX⟩
      have CL := Aside0.mk (And.intro CL.out.1 (And.intro CL.out.2.1 (Kd.C_below CL.out.2.2 (below_step (by repeat (first | exact Below.refl _ _ | apply pw_below_drewN)) BX))))
      have BB := Aside0.mk (below_step BB.out (below_step (by repeat (first | exact Below.refl _ _ | apply pw_below_drewN)) BX))
      clear BX
      go_wp2_with fail
      refine (spec_SquareTurns.calls k n _ _ lab 0 false _ (by repeat (first | exact CL.out.2.2 | apply Kd.C_drewN)) CL.out.2.1 N.out.st).mono ?_
      rintro e w4 ⟨rfl, BX⟩
      have CL := Aside0.mk (And.intro CL.out.1 (And.intro CL.out.2.1 (Kd.C_below CL.out.2.2 (below_step (by repeat (first | exact Below.refl _ _ | apply pw_below_drewN)) BX))))
      have BB := Aside0.mk (below_step BB.out (below_step (by repeat (first | exact Below.refl _ _ | apply pw_below_drewN)) BX))
      clear BX
      as_aux_lemma =>
      go_wp2_with fail
      refine (impl_NegateLabels.calls n _ _ lab [] false _ (by repeat (first | exact CL.out.2.2 | apply Kd.C_drewN)) CL.out.2.1 N.out.ng).mono ?_
      rintro e w5 ⟨v_, rfl, RX, BX⟩
      obtain ⟨ACO, cCO, rfl⟩ := Kd.R_slice RX
      have CO := Aside0.mk (Kd.R_reads' RX)
      clear RX
      have CL := Aside0.mk (And.intro CL.out.1 (And.intro CL.out.2.1 (Kd.C_below CL.out.2.2 (below_step (by repeat (first | exact Below.refl _ _ | apply pw_below_drewN)) BX))))
      have BB := Aside0.mk (below_step BB.out (below_step (by repeat (first | exact Below.refl _ _ | apply pw_below_drewN)) BX))
      clear BX
      go_wp2_with fail
      refine (spec_NegateLabels.calls k n _ _ lab [] false _ (by repeat (first | exact CL.out.2.2 | apply Kd.C_drewN)) CL.out.2.1 N.out.sn).mono ?_
      rintro e w6 ⟨v_, rfl, RX, BX⟩
      obtain ⟨AWO, cWO, rfl⟩ := Kd.R_slice RX
      have WO := Aside0.mk (Kd.R_reads' RX)
      clear RX
      have CL := Aside0.mk (And.intro CL.out.1 (And.intro CL.out.2.1 (Kd.C_below CL.out.2.2 (below_step (by repeat (first | exact Below.refl _ _ | apply pw_below_drewN)) BX))))
      have CO := Aside0.mk (And.intro CO.out.1 (And.intro CO.out.2.1 (Kd.C_below CO.out.2.2 (below_step (by repeat (first | exact Below.refl _ _ | apply pw_below_drewN)) BX))))
      have BB := Aside0.mk (below_step BB.out (below_step (by repeat (first | exact Below.refl _ _ | apply pw_below_drewN)) BX))
      clear BX
      go_wp2_with fail
      refine (impl_AddTurn.calls n _ _ lab [] false _ (by repeat (first | exact CL.out.2.2 | apply Kd.C_drewN)) CL.out.2.1 N.out.ad).mono ?_
      rintro e w7 ⟨v_, rfl, RX, BX⟩
      obtain ⟨ACN, cCN, rfl⟩ := Kd.R_slice RX
      have CN := Aside0.mk (Kd.R_reads' RX)
      clear RX
      have CL := Aside0.mk (And.intro CL.out.1 (And.intro CL.out.2.1 (Kd.C_below CL.out.2.2 (below_step (by repeat (first | exact Below.refl _ _ | apply pw_below_drewN)) BX))))
      have CO := Aside0.mk (And.intro CO.out.1 (And.intro CO.out.2.1 (Kd.C_below CO.out.2.2 (below_step (by repeat (first | exact Below.refl _ _ | apply pw_below_drewN)) BX))))
      have WO := Aside0.mk (And.intro WO.out.1 (And.intro WO.out.2.1 (Kd.C_below WO.out.2.2 (below_step (by repeat (first | exact Below.refl _ _ | apply pw_below_drewN)) BX))))
      have BB := Aside0.mk (below_step BB.out (below_step (by repeat (first | exact Below.refl _ _ | apply pw_below_drewN)) BX))
      clear BX
      as_aux_lemma =>
      go_wp2_with fail
      refine (spec_AddTurn.calls k n _ _ lab [] false _ (by repeat (first | exact CL.out.2.2 | apply Kd.C_drewN)) CL.out.2.1 N.out.sa).mono ?_
      rintro e w8 ⟨v_, rfl, RX, BX⟩
      obtain ⟨AWN, cWN, rfl⟩ := Kd.R_slice RX
      have WN := Aside0.mk (Kd.R_reads' RX)
      clear RX
      have CL := Aside0.mk (And.intro CL.out.1 (And.intro CL.out.2.1 (Kd.C_below CL.out.2.2 (below_step (by repeat (first | exact Below.refl _ _ | apply pw_below_drewN)) BX))))
      have CO := Aside0.mk (And.intro CO.out.1 (And.intro CO.out.2.1 (Kd.C_below CO.out.2.2 (below_step (by repeat (first | exact Below.refl _ _ | apply pw_below_drewN)) BX))))
      have WO := Aside0.mk (And.intro WO.out.1 (And.intro WO.out.2.1 (Kd.C_below WO.out.2.2 (below_step (by repeat (first | exact Below.refl _ _ | apply pw_below_drewN)) BX))))
      have CN := Aside0.mk (And.intro CN.out.1 (And.intro CN.out.2.1 (Kd.C_below CN.out.2.2 (below_step (by repeat (first | exact Below.refl _ _ | apply pw_below_drewN)) BX))))
      have BB := Aside0.mk (below_step BB.out (below_step (by repeat (first | exact Below.refl _ _ | apply pw_below_drewN)) BX))
      clear BX
      go_wp2_with fail
      refine (laws_uSame.calls k _ _ [] _ _ [] true _ (by repeat (first | exact CO.out.2.2 | apply Kd.C_drewN)) CO.out.2.1 (by repeat (first | exact WO.out.2.2 | apply Kd.C_drewN)) WO.out.2.1 N.out.uu).mono ?_
      rintro e w9 ⟨rfl, ⟨q_, rfl⟩⟩
      go_wp2_with fail
      refine (laws_uSame.calls k _ _ [] _ _ [] true _ (by repeat (first | exact CN.out.2.2 | apply Kd.C_drewN)) CN.out.2.1 (by repeat (first | exact WN.out.2.2 | apply Kd.C_drewN)) WN.out.2.1 N.out.uu).mono ?_
      rintro e w10 ⟨rfl, ⟨q_, rfl⟩⟩
      go_wp2
      go_ret
      exact ⟨rfl, by repeat (first | exact BB.out | apply pw_below_drewN)⟩
    · as_aux_lemma =>
      have Y := Aside0.mk Y
      clear HPP
      as_aux_lemma =>
      go_wp2_with fail
      refine (impl_SquareTurns.calls k n _ _ lab t ok _ (by repeat (first | exact CL.out.2.2 | apply Kd.C_drewN)) CL.out.2.1 Y.out.it).mono ?_
      rintro e w3 ⟨rfl, BX⟩
      have CL := Aside0.mk (And.intro CL.out.1 (And.intro CL.out.2.1 (Kd.C_below CL.out.2.2 (below_step (by repeat (first | exact Below.refl _ _ | apply pw_below_drewN)) BX))))
      have BB := Aside0.mk (below_step BB.out (below_step (by repeat (first | exact Below.refl _ _ | apply pw_below_drewN)) BX))
      clear BX
      go_wp2_with fail
      refine (spec_SquareTurns.calls k n _ _ lab t ok _ (by repeat (first | exact CL.out.2.2 | apply Kd.C_drewN)) CL.out.2.1 Y.out.st).mono ?_
      rintro e w4 ⟨rfl, BX⟩
      have CL := Aside0.mk (And.intro CL.out.1 (And.intro CL.out.2.1 (Kd.C_below CL.out.2.2 (below_step (by repeat (first | exact Below.refl _ _ | apply pw_below_drewN)) BX))))
      have BB := Aside0.mk (below_step BB.out (below_step (by repeat (first | exact Below.refl _ _ | apply pw_below_drewN)) BX))
      clear BX
      go_wp2_with fail
      refine (impl_NegateLabels.calls n _ _ lab o true _ (by repeat (first | exact CL.out.2.2 | apply Kd.C_drewN)) CL.out.2.1 Y.out.ng).mono ?_
      rintro e w5 ⟨v_, rfl, RX, BX⟩
      obtain ⟨ACO, cCO, rfl⟩ := Kd.R_slice RX
      have CO := Aside0.mk (Kd.R_reads' RX)
      clear RX
      have CL := Aside0.mk (And.intro CL.out.1 (And.intro CL.out.2.1 (Kd.C_below CL.out.2.2 (below_step (by repeat (first | exact Below.refl _ _ | apply pw_below_drewN)) BX))))
      have BB := Aside0.mk (below_step BB.out (below_step (by repeat (first | exact Below.refl _ _ | apply pw_below_drewN)) BX))
      clear BX
      as_aux_lemma =>
      go_wp2_with fail
      refine (spec_NegateLabels.calls k n _ _ lab o true _ (by repeat (first | exact CL.out.2.2 | apply Kd.C_drewN)) CL.out.2.1 Y.out.sn).mono ?_
      rintro e w6 ⟨v_, rfl, RX, BX⟩
      obtain ⟨AWO, cWO, rfl⟩ := Kd.R_slice RX
      have WO := Aside0.mk (Kd.R_reads' RX)
      clear RX
      have CL := Aside0.mk (And.intro CL.out.1 (And.intro CL.out.2.1 (Kd.C_below CL.out.2.2 (below_step (by repeat (first | exact Below.refl _ _ | apply pw_below_drewN)) BX))))
      have CO := Aside0.mk (And.intro CO.out.1 (And.intro CO.out.2.1 (Kd.C_below CO.out.2.2 (below_step (by repeat (first | exact Below.refl _ _ | apply pw_below_drewN)) BX))))
      have BB := Aside0.mk (below_step BB.out (below_step (by repeat (first | exact Below.refl _ _ | apply pw_below_drewN)) BX))
      clear BX
      go_wp2_with fail
      refine (impl_AddTurn.calls n _ _ lab nx true _ (by repeat (first | exact CL.out.2.2 | apply Kd.C_drewN)) CL.out.2.1 Y.out.ad).mono ?_
      rintro e w7 ⟨v_, rfl, RX, BX⟩
      obtain ⟨ACN, cCN, rfl⟩ := Kd.R_slice RX
      have CN := Aside0.mk (Kd.R_reads' RX)
      clear RX
      have CL := Aside0.mk (And.intro CL.out.1 (And.intro CL.out.2.1 (Kd.C_below CL.out.2.2 (below_step (by repeat (first | exact Below.refl _ _ | apply pw_below_drewN)) BX))))
      have CO := Aside0.mk (And.intro CO.out.1 (And.intro CO.out.2.1 (Kd.C_below CO.out.2.2 (below_step (by repeat (first | exact Below.refl _ _ | apply pw_below_drewN)) BX))))
      have WO := Aside0.mk (And.intro WO.out.1 (And.intro WO.out.2.1 (Kd.C_below WO.out.2.2 (below_step (by repeat (first | exact Below.refl _ _ | apply pw_below_drewN)) BX))))
      have BB := Aside0.mk (below_step BB.out (below_step (by repeat (first | exact Below.refl _ _ | apply pw_below_drewN)) BX))
      clear BX
      go_wp2_with fail
      refine (spec_AddTurn.calls k n _ _ lab nx true _ (by repeat (first | exact CL.out.2.2 | apply Kd.C_drewN)) CL.out.2.1 Y.out.sa).mono ?_
      rintro e w8 ⟨v_, rfl, RX, BX⟩
      obtain ⟨AWN, cWN, rfl⟩ := Kd.R_slice RX
      have WN := Aside0.mk (Kd.R_reads' RX)
      clear RX
      have CL := Aside0.mk (And.intro CL.out.1 (And.intro CL.out.2.1 (Kd.C_below CL.out.2.2 (below_step (by repeat (first | exact Below.refl _ _ | apply pw_below_drewN)) BX))))
      have CO := Aside0.mk (And.intro CO.out.1 (And.intro CO.out.2.1 (Kd.C_below CO.out.2.2 (below_step (by repeat (first | exact Below.refl _ _ | apply pw_below_drewN)) BX))))
      have WO := Aside0.mk (And.intro WO.out.1 (And.intro WO.out.2.1 (Kd.C_below WO.out.2.2 (below_step (by repeat (first | exact Below.refl _ _ | apply pw_below_drewN)) BX))))
      have CN := Aside0.mk (And.intro CN.out.1 (And.intro CN.out.2.1 (Kd.C_below CN.out.2.2 (below_step (by repeat (first | exact Below.refl _ _ | apply pw_below_drewN)) BX))))
      have BB := Aside0.mk (below_step BB.out (below_step (by repeat (first | exact Below.refl _ _ | apply pw_below_drewN)) BX))
      clear BX
      cases ok with
      | false =>
        cases op with
        | false =>
          as_aux_lemma =>
          go_wp2_with fail
          refine (laws_uSame.calls k _ _ o _ _ o true _ (by repeat (first | exact CO.out.2.2 | apply Kd.C_drewN)) CO.out.2.1 (by repeat (first | exact WO.out.2.2 | apply Kd.C_drewN)) WO.out.2.1 Y.out.uo).mono ?_
          rintro e w9 ⟨rfl, ⟨q_, rfl⟩⟩
          go_wp2_with fail
          refine (laws_uSame.calls k _ _ nx _ _ nx true _ (by repeat (first | exact CN.out.2.2 | apply Kd.C_drewN)) CN.out.2.1 (by repeat (first | exact WN.out.2.2 | apply Kd.C_drewN)) WN.out.2.1 Y.out.un).mono ?_
          rintro e w10 ⟨rfl, ⟨q_, rfl⟩⟩
          clear WO WN
          as_aux_lemma =>
          go_wp2_with fail
          refine (impl_NegateLabels.calls n _ _ o lab true _ (by repeat (first | exact CO.out.2.2 | apply Kd.C_drewN)) CO.out.2.1 Y.out.nn).mono ?_
          rintro e w11 ⟨v_, rfl, RX, BX⟩
          obtain ⟨AAG, cAG, rfl⟩ := Kd.R_slice RX
          have AG := Aside0.mk (Kd.R_reads' RX)
          clear RX
          have CL := Aside0.mk (And.intro CL.out.1 (And.intro CL.out.2.1 (Kd.C_below CL.out.2.2 (below_step (by repeat (first | exact Below.refl _ _ | apply pw_below_drewN)) BX))))
          have CO := Aside0.mk (And.intro CO.out.1 (And.intro CO.out.2.1 (Kd.C_below CO.out.2.2 (below_step (by repeat (first | exact Below.refl _ _ | apply pw_below_drewN)) BX))))
          have CN := Aside0.mk (And.intro CN.out.1 (And.intro CN.out.2.1 (Kd.C_below CN.out.2.2 (below_step (by repeat (first | exact Below.refl _ _ | apply pw_below_drewN)) BX))))
          have BB := Aside0.mk (below_step BB.out (below_step (by repeat (first | exact Below.refl _ _ | apply pw_below_drewN)) BX))
          clear BX
          go_wp2_with fail
          refine (impl_AddTurn.calls n _ _ nx o true _ (by repeat (first | exact CN.out.2.2 | apply Kd.C_drewN)) CN.out.2.1 Y.out.aa).mono ?_
          rintro e w12 ⟨v_, rfl, RX, BX⟩
          obtain ⟨ATW, cTW, rfl⟩ := Kd.R_slice RX
          have TW := Aside0.mk (Kd.R_reads' RX)
          clear RX
          have CL := Aside0.mk (And.intro CL.out.1 (And.intro CL.out.2.1 (Kd.C_below CL.out.2.2 (below_step (by repeat (first | exact Below.refl _ _ | apply pw_below_drewN)) BX))))
          have CO := Aside0.mk (And.intro CO.out.1 (And.intro CO.out.2.1 (Kd.C_below CO.out.2.2 (below_step (by repeat (first | exact Below.refl _ _ | apply pw_below_drewN)) BX))))
          have CN := Aside0.mk (And.intro CN.out.1 (And.intro CN.out.2.1 (Kd.C_below CN.out.2.2 (below_step (by repeat (first | exact Below.refl _ _ | apply pw_below_drewN)) BX))))
          have AG := Aside0.mk (And.intro AG.out.1 (And.intro AG.out.2.1 (Kd.C_below AG.out.2.2 (below_step (by repeat (first | exact Below.refl _ _ | apply pw_below_drewN)) BX))))
          have BB := Aside0.mk (below_step BB.out (below_step (by repeat (first | exact Below.refl _ _ | apply pw_below_drewN)) BX))
          clear BX
          go_wp2_with fail
          refine (impl_SquareTurns.calls k n _ _ o t false _ (by repeat (first | exact CO.out.2.2 | apply Kd.C_drewN)) CO.out.2.1 Y.out.tO).mono ?_
          rintro e w13 ⟨rfl, BX⟩
          have CL := Aside0.mk (And.intro CL.out.1 (And.intro CL.out.2.1 (Kd.C_below CL.out.2.2 (below_step (by repeat (first | exact Below.refl _ _ | apply pw_below_drewN)) BX))))
          have CO := Aside0.mk (And.intro CO.out.1 (And.intro CO.out.2.1 (Kd.C_below CO.out.2.2 (below_step (by repeat (first | exact Below.refl _ _ | apply pw_below_drewN)) BX))))
          have CN := Aside0.mk (And.intro CN.out.1 (And.intro CN.out.2.1 (Kd.C_below CN.out.2.2 (below_step (by repeat (first | exact Below.refl _ _ | apply pw_below_drewN)) BX))))
          have AG := Aside0.mk (And.intro AG.out.1 (And.intro AG.out.2.1 (Kd.C_below AG.out.2.2 (below_step (by repeat (first | exact Below.refl _ _ | apply pw_below_drewN)) BX))))
          have TW := Aside0.mk (And.intro TW.out.1 (And.intro TW.out.2.1 (Kd.C_below TW.out.2.2 (below_step (by repeat (first | exact Below.refl _ _ | apply pw_below_drewN)) BX))))
          have BB := Aside0.mk (below_step BB.out (below_step (by repeat (first | exact Below.refl _ _ | apply pw_below_drewN)) BX))
          clear BX
          as_aux_lemma =>
          go_wp2_with fail
          refine (impl_SquareTurns.calls k n _ _ nx t false _ (by repeat (first | exact CN.out.2.2 | apply Kd.C_drewN)) CN.out.2.1 Y.out.tN).mono ?_
          rintro e w14 ⟨rfl, BX⟩
          have CL := Aside0.mk (And.intro CL.out.1 (And.intro CL.out.2.1 (Kd.C_below CL.out.2.2 (below_step (by repeat (first | exact Below.refl _ _ | apply pw_below_drewN)) BX))))
          have CO := Aside0.mk (And.intro CO.out.1 (And.intro CO.out.2.1 (Kd.C_below CO.out.2.2 (below_step (by repeat (first | exact Below.refl _ _ | apply pw_below_drewN)) BX))))
          have CN := Aside0.mk (And.intro CN.out.1 (And.intro CN.out.2.1 (Kd.C_below CN.out.2.2 (below_step (by repeat (first | exact Below.refl _ _ | apply pw_below_drewN)) BX))))
          have AG := Aside0.mk (And.intro AG.out.1 (And.intro AG.out.2.1 (Kd.C_below AG.out.2.2 (below_step (by repeat (first | exact Below.refl _ _ | apply pw_below_drewN)) BX))))
          have TW := Aside0.mk (And.intro TW.out.1 (And.intro TW.out.2.1 (Kd.C_below TW.out.2.2 (below_step (by repeat (first | exact Below.refl _ _ | apply pw_below_drewN)) BX))))
          have BB := Aside0.mk (below_step BB.out (below_step (by repeat (first | exact Below.refl _ _ | apply pw_below_drewN)) BX))
          clear BX
          go_wp2_with fail
          refine (impl_AreOpposite.calls k n _ _ lab false true _ (by repeat (first | exact CL.out.2.2 | apply Kd.C_drewN)) CL.out.2.1 Y.out.aL).mono ?_
          rintro e w15 ⟨rfl, BX⟩
          have CL := Aside0.mk (And.intro CL.out.1 (And.intro CL.out.2.1 (Kd.C_below CL.out.2.2 (below_step (by repeat (first | exact Below.refl _ _ | apply pw_below_drewN)) BX))))
          have CO := Aside0.mk (And.intro CO.out.1 (And.intro CO.out.2.1 (Kd.C_below CO.out.2.2 (below_step (by repeat (first | exact Below.refl _ _ | apply pw_below_drewN)) BX))))
          have CN := Aside0.mk (And.intro CN.out.1 (And.intro CN.out.2.1 (Kd.C_below CN.out.2.2 (below_step (by repeat (first | exact Below.refl _ _ | apply pw_below_drewN)) BX))))
          have AG := Aside0.mk (And.intro AG.out.1 (And.intro AG.out.2.1 (Kd.C_below AG.out.2.2 (below_step (by repeat (first | exact Below.refl _ _ | apply pw_below_drewN)) BX))))
          have TW := Aside0.mk (And.intro TW.out.1 (And.intro TW.out.2.1 (Kd.C_below TW.out.2.2 (below_step (by repeat (first | exact Below.refl _ _ | apply pw_below_drewN)) BX))))
          have BB := Aside0.mk (below_step BB.out (below_step (by repeat (first | exact Below.refl _ _ | apply pw_below_drewN)) BX))
          clear BX
          go_wp2_with fail
          refine (impl_AreOpposite.calls k n _ _ nx false true _ (by repeat (first | exact CN.out.2.2 | apply Kd.C_drewN)) CN.out.2.1 Y.out.aN).mono ?_
          rintro e w16 ⟨rfl, BX⟩
          have CL := Aside0.mk (And.intro CL.out.1 (And.intro CL.out.2.1 (Kd.C_below CL.out.2.2 (below_step (by repeat (first | exact Below.refl _ _ | apply pw_below_drewN)) BX))))
          have CO := Aside0.mk (And.intro CO.out.1 (And.intro CO.out.2.1 (Kd.C_below CO.out.2.2 (below_step (by repeat (first | exact Below.refl _ _ | apply pw_below_drewN)) BX))))
          have CN := Aside0.mk (And.intro CN.out.1 (And.intro CN.out.2.1 (Kd.C_below CN.out.2.2 (below_step (by repeat (first | exact Below.refl _ _ | apply pw_below_drewN)) BX))))
          have AG := Aside0.mk (And.intro AG.out.1 (And.intro AG.out.2.1 (Kd.C_below AG.out.2.2 (below_step (by repeat (first | exact Below.refl _ _ | apply pw_below_drewN)) BX))))
          have TW := Aside0.mk (And.intro TW.out.1 (And.intro TW.out.2.1 (Kd.C_below TW.out.2.2 (below_step (by repeat (first | exact Below.refl _ _ | apply pw_below_drewN)) BX))))
          have BB := Aside0.mk (below_step BB.out (below_step (by repeat (first | exact Below.refl _ _ | apply pw_below_drewN)) BX))
          clear BX
          go_upto_region 19 with fail
          simp only [List.append_eq, List.cons_append, List.nil_append]
          as_aux_lemma =>
          go_wp2_with fail
          refine (laws_uSame.calls k _ _ lab _ _ lab true _ (by repeat (first | exact AG.out.2.2 | apply Kd.C_drewN)) AG.out.2.1 (by repeat (first | exact CL.out.2.2 | apply Kd.C_drewN)) CL.out.2.1 Y.out.ul).mono ?_
          rintro e w17 ⟨rfl, ⟨q_, rfl⟩⟩
          go_wp2_with fail
          refine (laws_uSame.calls k _ _ o _ _ o true _ (by repeat (first | exact TW.out.2.2 | apply Kd.C_drewN)) TW.out.2.1 (by repeat (first | exact CO.out.2.2 | apply Kd.C_drewN)) CO.out.2.1 Y.out.uo).mono ?_
          rintro e w18 ⟨rfl, ⟨q_, rfl⟩⟩
          go_wp2
          go_ret
          exact ⟨rfl, by repeat (first | exact BB.out | apply pw_below_drewN)⟩
        | true =>
          as_aux_lemma =>
          go_wp2_with fail
          refine (laws_uSame.calls k _ _ o _ _ o true _ (by repeat (first | exact CO.out.2.2 | apply Kd.C_drewN)) CO.out.2.1 (by repeat (first | exact WO.out.2.2 | apply Kd.C_drewN)) WO.out.2.1 Y.out.uo).mono ?_
          rintro e w9 ⟨rfl, ⟨q_, rfl⟩⟩
          go_wp2_with fail
          refine (laws_uSame.calls k _ _ nx _ _ nx true _ (by repeat (first | exact CN.out.2.2 | apply Kd.C_drewN)) CN.out.2.1 (by repeat (first | exact WN.out.2.2 | apply Kd.C_drewN)) WN.out.2.1 Y.out.un).mono ?_
          rintro e w10 ⟨rfl, ⟨q_, rfl⟩⟩
          clear WO WN
          as_aux_lemma =>
          go_wp2_with fail
          refine (impl_NegateLabels.calls n _ _ o lab true _ (by repeat (first | exact CO.out.2.2 | apply Kd.C_drewN)) CO.out.2.1 Y.out.nn).mono ?_
          rintro e w11 ⟨v_, rfl, RX, BX⟩
          obtain ⟨AAG, cAG, rfl⟩ := Kd.R_slice RX
          have AG := Aside0.mk (Kd.R_reads' RX)
          clear RX
          have CL := Aside0.mk (And.intro CL.out.1 (And.intro CL.out.2.1 (Kd.C_below CL.out.2.2 (below_step (by repeat (first | exact Below.refl _ _ | apply pw_below_drewN)) BX))))
          have CO := Aside0.mk (And.intro CO.out.1 (And.intro CO.out.2.1 (Kd.C_below CO.out.2.2 (below_step (by repeat (first | exact Below.refl _ _ | apply pw_below_drewN)) BX))))
          have CN := Aside0.mk (And.intro CN.out.1 (And.intro CN.out.2.1 (Kd.C_below CN.out.2.2 (below_step (by repeat (first | exact Below.refl _ _ | apply pw_below_drewN)) BX))))
          have BB := Aside0.mk (below_step BB.out (below_step (by repeat (first | exact Below.refl _ _ | apply pw_below_drewN)) BX))
          clear BX
          go_wp2_with fail
          refine (impl_AddTurn.calls n _ _ nx o true _ (by repeat (first | exact CN.out.2.2 | apply Kd.C_drewN)) CN.out.2.1 Y.out.aa).mono ?_
          rintro e w12 ⟨v_, rfl, RX, BX⟩
          obtain ⟨ATW, cTW, rfl⟩ := Kd.R_slice RX
          have TW := Aside0.mk (Kd.R_reads' RX)
          clear RX
          have CL := Aside0.mk (And.intro CL.out.1 (And.intro CL.out.2.1 (Kd.C_below CL.out.2.2 (below_step (by repeat (first | exact Below.refl _ _ | apply pw_below_drewN)) BX))))
          have CO := Aside0.mk (And.intro CO.out.1 (And.intro CO.out.2.1 (Kd.C_below CO.out.2.2 (below_step (by repeat (first | exact Below.refl _ _ | apply pw_below_drewN)) BX))))
          have CN := Aside0.mk (And.intro CN.out.1 (And.intro CN.out.2.1 (Kd.C_below CN.out.2.2 (below_step (by repeat (first | exact Below.refl _ _ | apply pw_below_drewN)) BX))))
          have AG := Aside0.mk (And.intro AG.out.1 (And.intro AG.out.2.1 (Kd.C_below AG.out.2.2 (below_step (by repeat (first | exact Below.refl _ _ | apply pw_below_drewN)) BX))))
          have BB := Aside0.mk (below_step BB.out (below_step (by repeat (first | exact Below.refl _ _ | apply pw_below_drewN)) BX))
          clear BX
          go_wp2_with fail
          refine (impl_SquareTurns.calls k n _ _ o t false _ (by repeat (first | exact CO.out.2.2 | apply Kd.C_drewN)) CO.out.2.1 Y.out.tO).mono ?_
          rintro e w13 ⟨rfl, BX⟩
          have CL := Aside0.mk (And.intro CL.out.1 (And.intro CL.out.2.1 (Kd.C_below CL.out.2.2 (below_step (by repeat (first | exact Below.refl _ _ | apply pw_below_drewN)) BX))))
          have CO := Aside0.mk (And.intro CO.out.1 (And.intro CO.out.2.1 (Kd.C_below CO.out.2.2 (below_step (by repeat (first | exact Below.refl _ _ | apply pw_below_drewN)) BX))))
          have CN := Aside0.mk (And.intro CN.out.1 (And.intro CN.out.2.1 (Kd.C_below CN.out.2.2 (below_step (by repeat (first | exact Below.refl _ _ | apply pw_below_drewN)) BX))))
          have AG := Aside0.mk (And.intro AG.out.1 (And.intro AG.out.2.1 (Kd.C_below AG.out.2.2 (below_step (by repeat (first | exact Below.refl _ _ | apply pw_below_drewN)) BX))))
          have TW := Aside0.mk (And.intro TW.out.1 (And.intro TW.out.2.1 (Kd.C_below TW.out.2.2 (below_step (by repeat (first | exact Below.refl _ _ | apply pw_below_drewN)) BX))))
          have BB := Aside0.mk (below_step BB.out (below_step (by repeat (first | exact Below.refl _ _ | apply pw_below_drewN)) BX))
          clear BX
          as_aux_lemma =>
          go_wp2_with fail
          refine (impl_SquareTurns.calls k n _ _ nx t false _ (by repeat (first | exact CN.out.2.2 | apply Kd.C_drewN)) CN.out.2.1 Y.out.tN).mono ?_
          rintro e w14 ⟨rfl, BX⟩
          have CL := Aside0.mk (And.intro CL.out.1 (And.intro CL.out.2.1 (Kd.C_below CL.out.2.2 (below_step (by repeat (first | exact Below.refl _ _ | apply pw_below_drewN)) BX))))
          have CO := Aside0.mk (And.intro CO.out.1 (And.intro CO.out.2.1 (Kd.C_below CO.out.2.2 (below_step (by repeat (first | exact Below.refl _ _ | apply pw_below_drewN)) BX))))
          have CN := Aside0.mk (And.intro CN.out.1 (And.intro CN.out.2.1 (Kd.C_below CN.out.2.2 (below_step (by repeat (first | exact Below.refl _ _ | apply pw_below_drewN)) BX))))
          have AG := Aside0.mk (And.intro AG.out.1 (And.intro AG.out.2.1 (Kd.C_below AG.out.2.2 (below_step (by repeat (first | exact Below.refl _ _ | apply pw_below_drewN)) BX))))
          have TW := Aside0.mk (And.intro TW.out.1 (And.intro TW.out.2.1 (Kd.C_below TW.out.2.2 (below_step (by repeat (first | exact Below.refl _ _ | apply pw_below_drewN)) BX))))
          have BB := Aside0.mk (below_step BB.out (below_step (by repeat (first | exact Below.refl _ _ | apply pw_below_drewN)) BX))
          clear BX
          go_wp2_with fail
          refine (impl_AreOpposite.calls k n _ _ lab true true _ (by repeat (first | exact CL.out.2.2 | apply Kd.C_drewN)) CL.out.2.1 Y.out.aL).mono ?_
          rintro e w15 ⟨rfl, BX⟩
          have CL := Aside0.mk (And.intro CL.out.1 (And.intro CL.out.2.1 (Kd.C_below CL.out.2.2 (below_step (by repeat (first | exact Below.refl _ _ | apply pw_below_drewN)) BX))))
          have CO := Aside0.mk (And.intro CO.out.1 (And.intro CO.out.2.1 (Kd.C_below CO.out.2.2 (below_step (by repeat (first | exact Below.refl _ _ | apply pw_below_drewN)) BX))))
          have CN := Aside0.mk (And.intro CN.out.1 (And.intro CN.out.2.1 (Kd.C_below CN.out.2.2 (below_step (by repeat (first | exact Below.refl _ _ | apply pw_below_drewN)) BX))))
          have AG := Aside0.mk (And.intro AG.out.1 (And.intro AG.out.2.1 (Kd.C_below AG.out.2.2 (below_step (by repeat (first | exact Below.refl _ _ | apply pw_below_drewN)) BX))))
          have TW := Aside0.mk (And.intro TW.out.1 (And.intro TW.out.2.1 (Kd.C_below TW.out.2.2 (below_step (by repeat (first | exact Below.refl _ _ | apply pw_below_drewN)) BX))))
          have BB := Aside0.mk (below_step BB.out (below_step (by repeat (first | exact Below.refl _ _ | apply pw_below_drewN)) BX))
          clear BX
          go_wp2_with fail
          refine (impl_AreOpposite.calls k n _ _ nx true true _ (by repeat (first | exact CN.out.2.2 | apply Kd.C_drewN)) CN.out.2.1 Y.out.aN).mono ?_
          rintro e w16 ⟨rfl, BX⟩
          have CL := Aside0.mk (And.intro CL.out.1 (And.intro CL.out.2.1 (Kd.C_below CL.out.2.2 (below_step (by repeat (first | exact Below.refl _ _ | apply pw_below_drewN)) BX))))
          have CO := Aside0.mk (And.intro CO.out.1 (And.intro CO.out.2.1 (Kd.C_below CO.out.2.2 (below_step (by repeat (first | exact Below.refl _ _ | apply pw_below_drewN)) BX))))
          have CN := Aside0.mk (And.intro CN.out.1 (And.intro CN.out.2.1 (Kd.C_below CN.out.2.2 (below_step (by repeat (first | exact Below.refl _ _ | apply pw_below_drewN)) BX))))
          have AG := Aside0.mk (And.intro AG.out.1 (And.intro AG.out.2.1 (Kd.C_below AG.out.2.2 (below_step (by repeat (first | exact Below.refl _ _ | apply pw_below_drewN)) BX))))
          have TW := Aside0.mk (And.intro TW.out.1 (And.intro TW.out.2.1 (Kd.C_below TW.out.2.2 (below_step (by repeat (first | exact Below.refl _ _ | apply pw_below_drewN)) BX))))
          have BB := Aside0.mk (below_step BB.out (below_step (by repeat (first | exact Below.refl _ _ | apply pw_below_drewN)) BX))
          clear BX
          go_upto_region 19 with fail
          simp only [List.append_eq, List.cons_append, List.nil_append]
          as_aux_lemma =>
          go_wp2_with fail
          refine (laws_uSame.calls k _ _ lab _ _ lab true _ (by repeat (first | exact AG.out.2.2 | apply Kd.C_drewN)) AG.out.2.1 (by repeat (first | exact CL.out.2.2 | apply Kd.C_drewN)) CL.out.2.1 Y.out.ul).mono ?_
          rintro e w17 ⟨rfl, ⟨q_, rfl⟩⟩
          go_wp2_with fail
          refine (laws_uSame.calls k _ _ o _ _ o true _ (by repeat (first | exact TW.out.2.2 | apply Kd.C_drewN)) TW.out.2.1 (by repeat (first | exact CO.out.2.2 | apply Kd.C_drewN)) CO.out.2.1 Y.out.uo).mono ?_
          rintro e w18 ⟨rfl, ⟨q_, rfl⟩⟩
          go_wp2
          go_ret
          exact ⟨rfl, by repeat (first | exact BB.out | apply pw_below_drewN)⟩
      | true =>
        cases op with
        | false =>
          as_aux_lemma =>
          go_wp2_with fail
          refine (laws_uSame.calls k _ _ o _ _ o true _ (by repeat (first | exact CO.out.2.2 | apply Kd.C_drewN)) CO.out.2.1 (by repeat (first | exact WO.out.2.2 | apply Kd.C_drewN)) WO.out.2.1 Y.out.uo).mono ?_
          rintro e w9 ⟨rfl, ⟨q_, rfl⟩⟩
          go_wp2_with fail
          refine (laws_uSame.calls k _ _ nx _ _ nx true _ (by repeat (first | exact CN.out.2.2 | apply Kd.C_drewN)) CN.out.2.1 (by repeat (first | exact WN.out.2.2 | apply Kd.C_drewN)) WN.out.2.1 Y.out.un).mono ?_
          rintro e w10 ⟨rfl, ⟨q_, rfl⟩⟩
          clear WO WN
          as_aux_lemma =>
          go_wp2_with fail
          refine (impl_NegateLabels.calls n _ _ o lab true _ (by repeat (first | exact CO.out.2.2 | apply Kd.C_drewN)) CO.out.2.1 Y.out.nn).mono ?_
          rintro e w11 ⟨v_, rfl, RX, BX⟩
          obtain ⟨AAG, cAG, rfl⟩ := Kd.R_slice RX
          have AG := Aside0.mk (Kd.R_reads' RX)
          clear RX
          have CL := Aside0.mk (And.intro CL.out.1 (And.intro CL.out.2.1 (Kd.C_below CL.out.2.2 (below_step (by repeat (first | exact Below.refl _ _ | apply pw_below_drewN)) BX))))
          have CO := Aside0.mk (And.intro CO.out.1 (And.intro CO.out.2.1 (Kd.C_below CO.out.2.2 (below_step (by repeat (first | exact Below.refl _ _ | apply pw_below_drewN)) BX))))
          have CN := Aside0.mk (And.intro CN.out.1 (And.intro CN.out.2.1 (Kd.C_below CN.out.2.2 (below_step (by repeat (first | exact Below.refl _ _ | apply pw_below_drewN)) BX))))
          have BB := Aside0.mk (below_step BB.out (below_step (by repeat (first | exact Below.refl _ _ | apply pw_below_drewN)) BX))
          clear BX
          go_wp2_with fail
          refine (impl_AddTurn.calls n _ _ nx o true _ (by repeat (first | exact CN.out.2.2 | apply Kd.C_drewN)) CN.out.2.1 Y.out.aa).mono ?_
          rintro e w12 ⟨v_, rfl, RX, BX⟩
          obtain ⟨ATW, cTW, rfl⟩ := Kd.R_slice RX
          have TW := Aside0.mk (Kd.R_reads' RX)
          clear RX
          have CL := Aside0.mk (And.intro CL.out.1 (And.intro CL.out.2.1 (Kd.C_below CL.out.2.2 (below_step (by repeat (first | exact Below.refl _ _ | apply pw_below_drewN)) BX))))
          have CO := Aside0.mk (And.intro CO.out.1 (And.intro CO.out.2.1 (Kd.C_below CO.out.2.2 (below_step (by repeat (first | exact Below.refl _ _ | apply pw_below_drewN)) BX))))
          have CN := Aside0.mk (And.intro CN.out.1 (And.intro CN.out.2.1 (Kd.C_below CN.out.2.2 (below_step (by repeat (first | exact Below.refl _ _ | apply pw_below_drewN)) BX))))
          have AG := Aside0.mk (And.intro AG.out.1 (And.intro AG.out.2.1 (Kd.C_below AG.out.2.2 (below_step (by repeat (first | exact Below.refl _ _ | apply pw_below_drewN)) BX))))
          have BB := Aside0.mk (below_step BB.out (below_step (by repeat (first | exact Below.refl _ _ | apply pw_below_drewN)) BX))
          clear BX
          go_wp2_with fail
          refine (impl_SquareTurns.calls k n _ _ o t true _ (by repeat (first | exact CO.out.2.2 | apply Kd.C_drewN)) CO.out.2.1 Y.out.tO).mono ?_
          rintro e w13 ⟨rfl, BX⟩
          have CL := Aside0.mk (And.intro CL.out.1 (And.intro CL.out.2.1 (Kd.C_below CL.out.2.2 (below_step (by repeat (first | exact Below.refl _ _ | apply pw_below_drewN)) BX))))
          have CO := Aside0.mk (And.intro CO.out.1 (And.intro CO.out.2.1 (Kd.C_below CO.out.2.2 (below_step (by repeat (first | exact Below.refl _ _ | apply pw_below_drewN)) BX))))
          have CN := Aside0.mk (And.intro CN.out.1 (And.intro CN.out.2.1 (Kd.C_below CN.out.2.2 (below_step (by repeat (first | exact Below.refl _ _ | apply pw_below_drewN)) BX))))
          have AG := Aside0.mk (And.intro AG.out.1 (And.intro AG.out.2.1 (Kd.C_below AG.out.2.2 (below_step (by repeat (first | exact Below.refl _ _ | apply pw_below_drewN)) BX))))
          have TW := Aside0.mk (And.intro TW.out.1 (And.intro TW.out.2.1 (Kd.C_below TW.out.2.2 (below_step (by repeat (first | exact Below.refl _ _ | apply pw_below_drewN)) BX))))
          have BB := Aside0.mk (below_step BB.out (below_step (by repeat (first | exact Below.refl _ _ | apply pw_below_drewN)) BX))
          clear BX
          as_aux_lemma =>
          go_wp2_with fail
          refine (impl_SquareTurns.calls k n _ _ nx t true _ (by repeat (first | exact CN.out.2.2 | apply Kd.C_drewN)) CN.out.2.1 Y.out.tN).mono ?_
          rintro e w14 ⟨rfl, BX⟩
          have CL := Aside0.mk (And.intro CL.out.1 (And.intro CL.out.2.1 (Kd.C_below CL.out.2.2 (below_step (by repeat (first | exact Below.refl _ _ | apply pw_below_drewN)) BX))))
          have CO := Aside0.mk (And.intro CO.out.1 (And.intro CO.out.2.1 (Kd.C_below CO.out.2.2 (below_step (by repeat (first | exact Below.refl _ _ | apply pw_below_drewN)) BX))))
          have CN := Aside0.mk (And.intro CN.out.1 (And.intro CN.out.2.1 (Kd.C_below CN.out.2.2 (below_step (by repeat (first | exact Below.refl _ _ | apply pw_below_drewN)) BX))))
          have AG := Aside0.mk (And.intro AG.out.1 (And.intro AG.out.2.1 (Kd.C_below AG.out.2.2 (below_step (by repeat (first | exact Below.refl _ _ | apply pw_below_drewN)) BX))))
          have TW := Aside0.mk (And.intro TW.out.1 (And.intro TW.out.2.1 (Kd.C_below TW.out.2.2 (below_step (by repeat (first | exact Below.refl _ _ | apply pw_below_drewN)) BX))))
          have BB := Aside0.mk (below_step BB.out (below_step (by repeat (first | exact Below.refl _ _ | apply pw_below_drewN)) BX))
          clear BX
          go_wp2_with fail
          refine (impl_AreOpposite.calls k n _ _ lab false true _ (by repeat (first | exact CL.out.2.2 | apply Kd.C_drewN)) CL.out.2.1 Y.out.aL).mono ?_
          rintro e w15 ⟨rfl, BX⟩
          have CL := Aside0.mk (And.intro CL.out.1 (And.intro CL.out.2.1 (Kd.C_below CL.out.2.2 (below_step (by repeat (first | exact Below.refl _ _ | apply pw_below_drewN)) BX))))
          have CO := Aside0.mk (And.intro CO.out.1 (And.intro CO.out.2.1 (Kd.C_below CO.out.2.2 (below_step (by repeat (first | exact Below.refl _ _ | apply pw_below_drewN)) BX))))
          have CN := Aside0.mk (And.intro CN.out.1 (And.intro CN.out.2.1 (Kd.C_below CN.out.2.2 (below_step (by repeat (first | exact Below.refl _ _ | apply pw_below_drewN)) BX))))
          have AG := Aside0.mk (And.intro AG.out.1 (And.intro AG.out.2.1 (Kd.C_below AG.out.2.2 (below_step (by repeat (first | exact Below.refl _ _ | apply pw_below_drewN)) BX))))
          have TW := Aside0.mk (And.intro TW.out.1 (And.intro TW.out.2.1 (Kd.C_below TW.out.2.2 (below_step (by repeat (first | exact Below.refl _ _ | apply pw_below_drewN)) BX))))
          have BB := Aside0.mk (below_step BB.out (below_step (by repeat (first | exact Below.refl _ _ | apply pw_below_drewN)) BX))
          clear BX
          go_wp2_with fail
          refine (impl_AreOpposite.calls k n _ _ nx false true _ (by repeat (first | exact CN.out.2.2 | apply Kd.C_drewN)) CN.out.2.1 Y.out.aN).mono ?_
          rintro e w16 ⟨rfl, BX⟩
          have CL := Aside0.mk (And.intro CL.out.1 (And.intro CL.out.2.1 (Kd.C_below CL.out.2.2 (below_step (by repeat (first | exact Below.refl _ _ | apply pw_below_drewN)) BX))))
          have CO := Aside0.mk (And.intro CO.out.1 (And.intro CO.out.2.1 (Kd.C_below CO.out.2.2 (below_step (by repeat (first | exact Below.refl _ _ | apply pw_below_drewN)) BX))))
          have CN := Aside0.mk (And.intro CN.out.1 (And.intro CN.out.2.1 (Kd.C_below CN.out.2.2 (below_step (by repeat (first | exact Below.refl _ _ | apply pw_below_drewN)) BX))))
          have AG := Aside0.mk (And.intro AG.out.1 (And.intro AG.out.2.1 (Kd.C_below AG.out.2.2 (below_step (by repeat (first | exact Below.refl _ _ | apply pw_below_drewN)) BX))))
          have TW := Aside0.mk (And.intro TW.out.1 (And.intro TW.out.2.1 (Kd.C_below TW.out.2.2 (below_step (by repeat (first | exact Below.refl _ _ | apply pw_below_drewN)) BX))))
          have BB := Aside0.mk (below_step BB.out (below_step (by repeat (first | exact Below.refl _ _ | apply pw_below_drewN)) BX))
          clear BX
          go_upto_region 19 with fail
          simp only [List.append_eq, List.cons_append, List.nil_append]
          as_aux_lemma =>
          go_wp2_with fail
          refine (laws_uSame.calls k _ _ lab _ _ lab true _ (by repeat (first | exact AG.out.2.2 | apply Kd.C_drewN)) AG.out.2.1 (by repeat (first | exact CL.out.2.2 | apply Kd.C_drewN)) CL.out.2.1 Y.out.ul).mono ?_
          rintro e w17 ⟨rfl, ⟨q_, rfl⟩⟩
          go_wp2_with fail
          refine (laws_uSame.calls k _ _ o _ _ o true _ (by repeat (first | exact TW.out.2.2 | apply Kd.C_drewN)) TW.out.2.1 (by repeat (first | exact CO.out.2.2 | apply Kd.C_drewN)) CO.out.2.1 Y.out.uo).mono ?_
          rintro e w18 ⟨rfl, ⟨q_, rfl⟩⟩
          go_wp2_with fail
          refine (impl_SquareDoors.calls k n _ _ lab ds true _ (by repeat (first | exact CL.out.2.2 | apply Kd.C_drewN)) CL.out.2.1 (Y.out.dd rfl)).mono ?_
          rintro e w19 ⟨vd, rfl, SD, BX⟩
          obtain ⟨Ad, cd, rfl⟩ := Kd.S_slice SD
          have SD := Aside0.mk (Kd.S_reads' SD)
          have CL := Aside0.mk (And.intro CL.out.1 (And.intro CL.out.2.1 (Kd.C_below CL.out.2.2 (below_step (by repeat (first | exact Below.refl _ _ | apply pw_below_drewN)) BX))))
          have BB := Aside0.mk (below_step BB.out (below_step (by repeat (first | exact Below.refl _ _ | apply pw_below_drewN)) BX))
          clear BX CO CN AG TW
          go_wp2
          go_loopw [33, 233] (fun s33 s233 wr => ∃ m q : Nat, m ≤ ds.length ∧ s33 = .int .i64 (turnsSum lab ds m) ∧ s233 = .int .i64 m ∧ wr = w19.drewN q) (fun _ s233 _ => ds.length - (intOf s233).toNat)
          case atStart => exact ⟨0, 0, Nat.zero_le _, rfl, rfl, rfl⟩
          case round =>
            obtain ⟨m, q, hm, rfl, rfl, rfl⟩ := hrel
            by_cases hlt : m < ds.length
            · as_aux_lemma =>
              have h80 : ds.length ≤ 80 := Y.out.dle rfl
              have HW := Aside0.mk (wrapS m (Nat.le_trans hm h80))
              clear h80
              have hltz : (m : Int) < (ds.length : Int) := by omega
              have hm0 : (0 : Int) ≤ (m : Int) := by omega
              obtain ⟨adr, Ar, cr, e1, xr, hlr, hir⟩ := at_L3 SD.out.2.2 (m : Int) hm0 hltz
              cases e1
              rw [Int.toNat_natCast] at xr
              have hst : stepIn lab (rd_L3 ds (m : Int)) := Y.out.din rfl _ (by unfold rd_L3; rw [Int.toNat_natCast, List.getD_eq_getElem?_getD, List.getElem?_eq_getElem hlt]; simp)
              have HTS := Aside0.mk (show turnsSum lab ds (m + 1) = wrap64 (turnsSum lab ds m + wrap64 (rd lab (rd (rd_L3 ds (m : Int)) 1) - rd lab (rd (rd_L3 ds (m : Int)) 0))) from rfl)
              generalize rd_L3 ds (m : Int) = x at xr hlr hir hst HTS
              obtain ⟨h2, ⟨p0, q0⟩, p1, q1⟩ := hst
              obtain ⟨ad, e1, x0⟩ := Kd.at_int hir 0 (by omega) (by omega)
              cases e1
              obtain ⟨ad', e1, x1⟩ := Kd.at_int hir 1 (by omega) (by omega)
              cases e1
              obtain ⟨al, e1, l0'⟩ := Kd.at_int CL.out.2.2 _ p0 q0
              cases e1
              obtain ⟨al', e1, l1'⟩ := Kd.at_int CL.out.2.2 _ p1 q1
              cases e1
              simp [Addr.add] at x0 x1
              have hx2 : (0 : Int) < (x.length : Int) := by omega
              have hx3 : (1 : Int) < (x.length : Int) := by omega
              have HXL := Aside0.mk h2
              clear hlr hir h2
              generalize rd lab (rd x 0) = y0 at l0' HTS
              generalize rd lab (rd x 1) = y1 at l1' HTS
              generalize rd x 0 = i0 at x0 l0' p0 q0
              generalize rd x 1 = i1 at x1 l1' p1 q1
              generalize turnsSum lab ds m = acc at HTS ⊢
              as_aux_lemma =>
              go_upto_region 27 with fail
              go_quiet (fail)
              go_wp2
              go_roundw
              case measure => exact meas _ _ _ HW.out hlt
              case rel => exact ⟨m + 1, _, by omega, by rw [HTS.out], by rw [HW.out]; rfl, rfl⟩
            · as_aux_lemma =>
              have hltz : ¬ (m : Int) < (ds.length : Int) := by omega
              have hmd : m = ds.length := by omega
              have HS := Aside0.mk (show turnsSum lab ds m = t by rw [hmd]; exact Y.out.sum rfl)
              clear hmd
              rw [HS.out]
              go_wp2
              go_ret
              exact ⟨rfl, by repeat (first | exact BB.out | apply pw_below_drewN)⟩
        | true =>
          as_aux_lemma =>
          go_wp2_with fail
          refine (laws_uSame.calls k _ _ o _ _ o true _ (by repeat (first | exact CO.out.2.2 | apply Kd.C_drewN)) CO.out.2.1 (by repeat (first | exact WO.out.2.2 | apply Kd.C_drewN)) WO.out.2.1 Y.out.uo).mono ?_
          rintro e w9 ⟨rfl, ⟨q_, rfl⟩⟩
          go_wp2_with fail
          refine (laws_uSame.calls k _ _ nx _ _ nx true _ (by repeat (first | exact CN.out.2.2 | apply Kd.C_drewN)) CN.out.2.1 (by repeat (first | exact WN.out.2.2 | apply Kd.C_drewN)) WN.out.2.1 Y.out.un).mono ?_
          rintro e w10 ⟨rfl, ⟨q_, rfl⟩⟩
          clear WO WN
          as_aux_lemma =>
          go_wp2_with fail
          refine (impl_NegateLabels.calls n _ _ o lab true _ (by repeat (first | exact CO.out.2.2 | apply Kd.C_drewN)) CO.out.2.1 Y.out.nn).mono ?_
          rintro e w11 ⟨v_, rfl, RX, BX⟩
          obtain ⟨AAG, cAG, rfl⟩ := Kd.R_slice RX
          have AG := Aside0.mk (Kd.R_reads' RX)
          clear RX
          have CL := Aside0.mk (And.intro CL.out.1 (And.intro CL.out.2.1 (Kd.C_below CL.out.2.2 (below_step (by repeat (first | exact Below.refl _ _ | apply pw_below_drewN)) BX))))
          have CO := Aside0.mk (And.intro CO.out.1 (And.intro CO.out.2.1 (Kd.C_below CO.out.2.2 (below_step (by repeat (first | exact Below.refl _ _ | apply pw_below_drewN)) BX))))
          have CN := Aside0.mk (And.intro CN.out.1 (And.intro CN.out.2.1 (Kd.C_below CN.out.2.2 (below_step (by repeat (first | exact Below.refl _ _ | apply pw_below_drewN)) BX))))
          have BB := Aside0.mk (below_step BB.out (below_step (by repeat (first | exact Below.refl _ _ | apply pw_below_drewN)) BX))
          clear BX
          go_wp2_with fail
          refine (impl_AddTurn.calls n _ _ nx o true _ (by repeat (first | exact CN.out.2.2 | apply Kd.C_drewN)) CN.out.2.1 Y.out.aa).mono ?_
          rintro e w12 ⟨v_, rfl, RX, BX⟩
          obtain ⟨ATW, cTW, rfl⟩ := Kd.R_slice RX
          have TW := Aside0.mk (Kd.R_reads' RX)
          clear RX
          have CL := Aside0.mk (And.intro CL.out.1 (And.intro CL.out.2.1 (Kd.C_below CL.out.2.2 (below_step (by repeat (first | exact Below.refl _ _ | apply pw_below_drewN)) BX))))
          have CO := Aside0.mk (And.intro CO.out.1 (And.intro CO.out.2.1 (Kd.C_below CO.out.2.2 (below_step (by repeat (first | exact Below.refl _ _ | apply pw_below_drewN)) BX))))
          have CN := Aside0.mk (And.intro CN.out.1 (And.intro CN.out.2.1 (Kd.C_below CN.out.2.2 (below_step (by repeat (first | exact Below.refl _ _ | apply pw_below_drewN)) BX))))
          have AG := Aside0.mk (And.intro AG.out.1 (And.intro AG.out.2.1 (Kd.C_below AG.out.2.2 (below_step (by repeat (first | exact Below.refl _ _ | apply pw_below_drewN)) BX))))
          have BB := Aside0.mk (below_step BB.out (below_step (by repeat (first | exact Below.refl _ _ | apply pw_below_drewN)) BX))
          clear BX
          go_wp2_with fail
          refine (impl_SquareTurns.calls k n _ _ o t true _ (by repeat (first | exact CO.out.2.2 | apply Kd.C_drewN)) CO.out.2.1 Y.out.tO).mono ?_
          rintro e w13 ⟨rfl, BX⟩
          have CL := Aside0.mk (And.intro CL.out.1 (And.intro CL.out.2.1 (Kd.C_below CL.out.2.2 (below_step (by repeat (first | exact Below.refl _ _ | apply pw_below_drewN)) BX))))
          have CO := Aside0.mk (And.intro CO.out.1 (And.intro CO.out.2.1 (Kd.C_below CO.out.2.2 (below_step (by repeat (first | exact Below.refl _ _ | apply pw_below_drewN)) BX))))
          have CN := Aside0.mk (And.intro CN.out.1 (And.intro CN.out.2.1 (Kd.C_below CN.out.2.2 (below_step (by repeat (first | exact Below.refl _ _ | apply pw_below_drewN)) BX))))
          have AG := Aside0.mk (And.intro AG.out.1 (And.intro AG.out.2.1 (Kd.C_below AG.out.2.2 (below_step (by repeat (first | exact Below.refl _ _ | apply pw_below_drewN)) BX))))
          have TW := Aside0.mk (And.intro TW.out.1 (And.intro TW.out.2.1 (Kd.C_below TW.out.2.2 (below_step (by repeat (first | exact Below.refl _ _ | apply pw_below_drewN)) BX))))
          have BB := Aside0.mk (below_step BB.out (below_step (by repeat (first | exact Below.refl _ _ | apply pw_below_drewN)) BX))
          clear BX
          as_aux_lemma =>
          go_wp2_with fail
          refine (impl_SquareTurns.calls k n _ _ nx t true _ (by repeat (first | exact CN.out.2.2 | apply Kd.C_drewN)) CN.out.2.1 Y.out.tN).mono ?_
          rintro e w14 ⟨rfl, BX⟩
          have CL := Aside0.mk (And.intro CL.out.1 (And.intro CL.out.2.1 (Kd.C_below CL.out.2.2 (below_step (by repeat (first | exact Below.refl _ _ | apply pw_below_drewN)) BX))))
          have CO := Aside0.mk (And.intro CO.out.1 (And.intro CO.out.2.1 (Kd.C_below CO.out.2.2 (below_step (by repeat (first | exact Below.refl _ _ | apply pw_below_drewN)) BX))))
          have CN := Aside0.mk (And.intro CN.out.1 (And.intro CN.out.2.1 (Kd.C_below CN.out.2.2 (below_step (by repeat (first | exact Below.refl _ _ | apply pw_below_drewN)) BX))))
          have AG := Aside0.mk (And.intro AG.out.1 (And.intro AG.out.2.1 (Kd.C_below AG.out.2.2 (below_step (by repeat (first | exact Below.refl _ _ | apply pw_below_drewN)) BX))))
          have TW := Aside0.mk (And.intro TW.out.1 (And.intro TW.out.2.1 (Kd.C_below TW.out.2.2 (below_step (by repeat (first | exact Below.refl _ _ | apply pw_below_drewN)) BX))))
          have BB := Aside0.mk (below_step BB.out (below_step (by repeat (first | exact Below.refl _ _ | apply pw_below_drewN)) BX))
          clear BX
          go_wp2_with fail
          refine (impl_AreOpposite.calls k n _ _ lab true true _ (by repeat (first | exact CL.out.2.2 | apply Kd.C_drewN)) CL.out.2.1 Y.out.aL).mono ?_
          rintro e w15 ⟨rfl, BX⟩
          have CL := Aside0.mk (And.intro CL.out.1 (And.intro CL.out.2.1 (Kd.C_below CL.out.2.2 (below_step (by repeat (first | exact Below.refl _ _ | apply pw_below_drewN)) BX))))
          have CO := Aside0.mk (And.intro CO.out.1 (And.intro CO.out.2.1 (Kd.C_below CO.out.2.2 (below_step (by repeat (first | exact Below.refl _ _ | apply pw_below_drewN)) BX))))
          have CN := Aside0.mk (And.intro CN.out.1 (And.intro CN.out.2.1 (Kd.C_below CN.out.2.2 (below_step (by repeat (first | exact Below.refl _ _ | apply pw_below_drewN)) BX))))
          have AG := Aside0.mk (And.intro AG.out.1 (And.intro AG.out.2.1 (Kd.C_below AG.out.2.2 (below_step (by repeat (first | exact Below.refl _ _ | apply pw_below_drewN)) BX))))
          have TW := Aside0.mk (And.intro TW.out.1 (And.intro TW.out.2.1 (Kd.C_below TW.out.2.2 (below_step (by repeat (first | exact Below.refl _ _ | apply pw_below_drewN)) BX))))
          have BB := Aside0.mk (below_step BB.out (below_step (by repeat (first | exact Below.refl _ _ | apply pw_below_drewN)) BX))
          clear BX
          go_wp2_with fail
          refine (impl_AreOpposite.calls k n _ _ nx true true _ (by repeat (first | exact CN.out.2.2 | apply Kd.C_drewN)) CN.out.2.1 Y.out.aN).mono ?_
          rintro e w16 ⟨rfl, BX⟩
          have CL := Aside0.mk (And.intro CL.out.1 (And.intro CL.out.2.1 (Kd.C_below CL.out.2.2 (below_step (by repeat (first | exact Below.refl _ _ | apply pw_below_drewN)) BX))))
          have CO := Aside0.mk (And.intro CO.out.1 (And.intro CO.out.2.1 (Kd.C_below CO.out.2.2 (below_step (by repeat (first | exact Below.refl _ _ | apply pw_below_drewN)) BX))))
          have CN := Aside0.mk (And.intro CN.out.1 (And.intro CN.out.2.1 (Kd.C_below CN.out.2.2 (below_step (by repeat (first | exact Below.refl _ _ | apply pw_below_drewN)) BX))))
          have AG := Aside0.mk (And.intro AG.out.1 (And.intro AG.out.2.1 (Kd.C_below AG.out.2.2 (below_step (by repeat (first | exact Below.refl _ _ | apply pw_below_drewN)) BX))))
          have TW := Aside0.mk (And.intro TW.out.1 (And.intro TW.out.2.1 (Kd.C_below TW.out.2.2 (below_step (by repeat (first | exact Below.refl _ _ | apply pw_below_drewN)) BX))))
          have BB := Aside0.mk (below_step BB.out (below_step (by repeat (first | exact Below.refl _ _ | apply pw_below_drewN)) BX))
          clear BX
          have od := Y.out.odd rfl rfl
          go_upto_region 19 with fail
          simp only [List.append_eq, List.cons_append, List.nil_append]
          as_aux_lemma =>
          go_wp2_with fail
          refine (laws_uSame.calls k _ _ lab _ _ lab true _ (by repeat (first | exact AG.out.2.2 | apply Kd.C_drewN)) AG.out.2.1 (by repeat (first | exact CL.out.2.2 | apply Kd.C_drewN)) CL.out.2.1 Y.out.ul).mono ?_
          rintro e w17 ⟨rfl, ⟨q_, rfl⟩⟩
          go_wp2_with fail
          refine (laws_uSame.calls k _ _ o _ _ o true _ (by repeat (first | exact TW.out.2.2 | apply Kd.C_drewN)) TW.out.2.1 (by repeat (first | exact CO.out.2.2 | apply Kd.C_drewN)) CO.out.2.1 Y.out.uo).mono ?_
          rintro e w18 ⟨rfl, ⟨q_, rfl⟩⟩
          go_wp2_with fail
          refine (impl_SquareDoors.calls k n _ _ lab ds true _ (by repeat (first | exact CL.out.2.2 | apply Kd.C_drewN)) CL.out.2.1 (Y.out.dd rfl)).mono ?_
          rintro e w19 ⟨vd, rfl, SD, BX⟩
          obtain ⟨Ad, cd, rfl⟩ := Kd.S_slice SD
          have SD := Aside0.mk (Kd.S_reads' SD)
          have CL := Aside0.mk (And.intro CL.out.1 (And.intro CL.out.2.1 (Kd.C_below CL.out.2.2 (below_step (by repeat (first | exact Below.refl _ _ | apply pw_below_drewN)) BX))))
          have BB := Aside0.mk (below_step BB.out (below_step (by repeat (first | exact Below.refl _ _ | apply pw_below_drewN)) BX))
          clear BX CO CN AG TW
          go_wp2
          go_loopw [33, 233] (fun s33 s233 wr => ∃ m q : Nat, m ≤ ds.length ∧ s33 = .int .i64 (turnsSum lab ds m) ∧ s233 = .int .i64 m ∧ wr = w19.drewN q) (fun _ s233 _ => ds.length - (intOf s233).toNat)
          case atStart => exact ⟨0, 0, Nat.zero_le _, rfl, rfl, rfl⟩
          case round =>
            obtain ⟨m, q, hm, rfl, rfl, rfl⟩ := hrel
            by_cases hlt : m < ds.length
            · as_aux_lemma =>
              have h80 : ds.length ≤ 80 := Y.out.dle rfl
              have HW := Aside0.mk (wrapS m (Nat.le_trans hm h80))
              clear h80
              have hltz : (m : Int) < (ds.length : Int) := by omega
              have hm0 : (0 : Int) ≤ (m : Int) := by omega
              obtain ⟨adr, Ar, cr, e1, xr, hlr, hir⟩ := at_L3 SD.out.2.2 (m : Int) hm0 hltz
              cases e1
              rw [Int.toNat_natCast] at xr
              have hst : stepIn lab (rd_L3 ds (m : Int)) := Y.out.din rfl _ (by unfold rd_L3; rw [Int.toNat_natCast, List.getD_eq_getElem?_getD, List.getElem?_eq_getElem hlt]; simp)
              have HTS := Aside0.mk (show turnsSum lab ds (m + 1) = wrap64 (turnsSum lab ds m + wrap64 (rd lab (rd (rd_L3 ds (m : Int)) 1) - rd lab (rd (rd_L3 ds (m : Int)) 0))) from rfl)
              generalize rd_L3 ds (m : Int) = x at xr hlr hir hst HTS
              obtain ⟨h2, ⟨p0, q0⟩, p1, q1⟩ := hst
              obtain ⟨ad, e1, x0⟩ := Kd.at_int hir 0 (by omega) (by omega)
              cases e1
              obtain ⟨ad', e1, x1⟩ := Kd.at_int hir 1 (by omega) (by omega)
              cases e1
              obtain ⟨al, e1, l0'⟩ := Kd.at_int CL.out.2.2 _ p0 q0
              cases e1
              obtain ⟨al', e1, l1'⟩ := Kd.at_int CL.out.2.2 _ p1 q1
              cases e1
              simp [Addr.add] at x0 x1
              have hx2 : (0 : Int) < (x.length : Int) := by omega
              have hx3 : (1 : Int) < (x.length : Int) := by omega
              have HXL := Aside0.mk h2
              clear hlr hir h2
              generalize rd lab (rd x 0) = y0 at l0' HTS
              generalize rd lab (rd x 1) = y1 at l1' HTS
              generalize rd x 0 = i0 at x0 l0' p0 q0
              generalize rd x 1 = i1 at x1 l1' p1 q1
              generalize turnsSum lab ds m = acc at HTS ⊢
              as_aux_lemma =>
              go_upto_region 27 with fail
              go_quiet (fail)
              go_wp2
              go_roundw
              case measure => exact meas _ _ _ HW.out hlt
              case rel => exact ⟨m + 1, _, by omega, by rw [HTS.out], by rw [HW.out]; rfl, rfl⟩
            · as_aux_lemma =>
              have hltz : ¬ (m : Int) < (ds.length : Int) := by omega
              have hmd : m = ds.length := by omega
              have HS := Aside0.mk (show turnsSum lab ds m = t by rw [hmd]; exact Y.out.sum rfl)
              clear hmd
              rw [HS.out]
              go_wp2
              go_ret
              exact ⟨rfl, by repeat (first | exact BB.out | apply pw_below_drewN)⟩
end Go.Proofs.Ytmdhclpkbopmdaa.Q
