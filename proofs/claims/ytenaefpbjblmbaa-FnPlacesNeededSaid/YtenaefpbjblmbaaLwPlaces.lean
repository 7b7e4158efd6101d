/- What is told of the law FnPlacesNeeded: its walk by hand (the print refuses it: a row that may be another one); for all bytes. The walk of the law FnPlacesNeeded by hand: the second answer is false; for all bytes. The walk of the law FnPlacesNeeded by hand: there is no way; for all bytes. The walk of the law FnPlacesNeeded by hand: nothing is needed; for all bytes. The walk of the law FnPlacesNeeded by hand: something is needed; for all bytes. The walk of the law FnPlacesNeeded by hand, joined out of its cases; for all bytes. -/
import Derived.Test.YtenaefpbjblmbaaJb
import Derived.Test.YtenaefpbjblmbaaGp
import Derived.Test.YtenaefpbjblmbaaQx1
import Derived.Test.YtenaefpbjblmbaaQx8
import Derived.Test.YtenaefpbjblmbaaQx5
import Derived.Test.YtenaefpbjblmbaaQx7
import Derived.Lib.Walk
import Derived.Outline
namespace Go.Proofs.Ytenaefpbjblmbaa.Q
open Go.Proofs.Ytenaefpbjblmbaa.Given Go.RowKit Go.Proofs.YtenaefpbjblmbaaW.PrintWords Go.Proofs.YtenaefpbjblmbaaW.PrintLast Go.Proofs.YtenaefpbjblmbaaW.PrintMore
set_option linter.unusedVariables false
set_option linter.unusedSimpArgs false

/-- All free places go to the player. -/
def fillP (p x : Int) : Int := if x = 0 then p else x
/-- How many of the first m are free. -/
def freeN (b : List Int) : Nat → Int
  | 0 => 0
  | m + 1 => if rd b m = 0 then freeN b m + 1 else freeN b m
theorem freeN_bound (b : List Int) : ∀ m : Nat, 0 ≤ freeN b m ∧ freeN b m ≤ (m : Int) := by
  intro m
  induction m with
  | zero => exact ⟨Int.le_refl _, Int.le_refl _⟩
  | succ m ih => unfold freeN; split <;> omega
theorem wrap_up {z : Int} {m : Nat} (h0 : 0 ≤ z) (hm : m ≤ 1000) (h1 : z ≤ (m : Int)) : wrap64 (z + 1) = z + 1 := by unfold wrap64; omega
theorem filled_step {b Xs Ys : List Int} {p : Int} {m : Nat} {y : Int} (h : ∀ j : Nat, j < m → Xs.getD j 0 = fillP p (b.getD j 0)) (hm : m < Xs.length) (hl : m < Ys.length) (hs : ∀ j : Nat, j < m → Ys.getD j 0 = Xs.getD j 0) (hy : fillP p (b.getD m 0) = y) : ∀ j : Nat, j < m + 1 → (Ys.set m y).getD j 0 = fillP p (b.getD j 0) := by
  intro j hj
  by_cases e : j = m
  · subst e
    rw [hy, List.getD_eq_getElem?_getD, List.getElem?_set_self hl]
    rfl
  · rw [List.getD_eq_getElem?_getD, List.getElem?_set_ne (by omega), ← List.getD_eq_getElem?_getD, hs j (by omega), h j (by omega)]
theorem filled_end {b Xs : List Int} {p : Int} (hl : Xs.length = b.length) (h : ∀ j : Nat, j < b.length → Xs.getD j 0 = fillP p (b.getD j 0)) : Xs = b.map (fillP p) := by
  refine List.ext_getElem (by simp [hl]) (fun j h1 h2 => ?_)
  have := h j (by omega)
  rw [List.getD_eq_getElem?_getD, List.getD_eq_getElem?_getD, List.getElem?_eq_getElem h1, List.getElem?_eq_getElem (by omega)] at this
  rw [List.getElem_map]
  simpa using this
/-- Whether one of the first m places makes it one less. -/
def foundN (less : Nat → Int) (b : List Int) (need : Int) : Nat → Bool
  | 0 => false
  | m + 1 => if rd b m = 0 then (foundN less b need m || (less m == wrap64 (need - 1))) else foundN less b need m
structure PlacesA (k : Nat) (rows cols : Int) (b : List Int) (p need : Int) (ok won one : Bool) : Prop where
  nI : impl_NeedOf.f k rows cols b p = some (need, ok)
  nS : spec_NeedOf.f k rows cols b p = some (need, ok)
  hw : impl_HasWon.f k rows cols b p = some (won, one)
  oo : ok = true → one = true
  len : b.length ≤ 1000
structure PlacesB (k : Nat) (rows cols : Int) (b : List Int) (p need : Int) (ok won other : Bool) (winner : Int) (less : Nat → Int) : Prop where
  n0 : 0 ≤ need
  ho : impl_HasWon.f k rows cols b (wrap64 (3 - p)) = some (other, true)
  t1 : won = true → other = false
  t2 : won = (ok && (need == 0))
  t3 : ok = true → other = false
  wn : impl_WinnerOf.f k rows cols (b.map (fillP p)) = some (winner, true)
  t4 : (winner == p) = ok
  t5 : ok = true → need ≤ freeN b b.length
  se : ok = true → 0 < need → ∀ i, i < b.length → rd b (i : Nat) = 0 → impl_NeedOf.f k rows cols (b.set i p) p = some (less i, true) ∧ wrap64 (need - 1) ≤ less i ∧ less i ≤ need
  fo : ok = true → 0 < need → foundN less b need b.length = true
structure PlacesC (k : Nat) (l1 : List Int) (r c i : Int) (near : List Int) (two : Bool) (u v : Int) (list : List Int) (who : Int) (won five : Bool) : Prop where
  dn : spec_DrawHexNear.f l1 = some (r, c, i)
  nI : impl_HexNear.f r c i = some (near, two)
  nS : spec_HexNear.f k r c i = some (near, two)
  zs : laws_zSame.f k near near = some true
  nl : near.length ≤ 10
  each : ∀ t : Nat, t < near.length → ∃ back, impl_HexNear.f r c (rd near t) = some (back, true) ∧ laws_zHas.f k back i = some true ∧ (0 < t → rd near ((t : Int) - 1) < rd near t)
  dh : spec_DrawHasWon.f k l1 = some (u, v, list, who)
  hI : impl_HasWon.f k u v list who = some (won, five)
  hS : spec_HasWon.f k u v list who = some (won, five)
theorem wrapP (m : Nat) (h : 0 < m) (h2 : m ≤ 10) : wrap64 ((m : Int) - 1) = (m : Int) - 1 := by unfold wrap64; omega
def laws_FnPlacesNeeded.Pure : Prop := ∀ (l0 l1 : List Int), (∀ x ∈ l0, (Lit.int .u8 x).wf = true) → (∀ x ∈ l1, (Lit.int .u8 x).wf = true) → ∃ k rows cols b p need ok won one, spec_DrawNeedOf.f k l0 = some (rows, cols, b, p) ∧ PlacesA k rows cols b p need ok won one ∧ (one = true → ∃ other winner less, PlacesB k rows cols b p need ok won other winner less) ∧ ∃ r c i near two u v list who won5 five, PlacesC k l1 r c i near two u v list who won5 five

end Go.Proofs.Ytenaefpbjblmbaa.Q

namespace Go.Proofs.Ytenaefpbjblmbaa.Q
open Go.Proofs.Ytenaefpbjblmbaa.Given Go.RowKit Go.Proofs.YtenaefpbjblmbaaW.PrintWords Go.Proofs.YtenaefpbjblmbaaW.PrintLast Go.Proofs.YtenaefpbjblmbaaW.PrintMore
set_option linter.unusedVariables false
set_option linter.unusedSimpArgs false

set_option maxHeartbeats 64000000 in
set_option maxRecDepth 100000 in
theorem places_A (k : Nat) (rows cols : Int) (b : List Int) (p need : Int) (won : Bool) (r c i : Int) (near : List Int) (two : Bool) (u v : Int) (list : List Int) (who : Int) (won5 five : Bool) (l0 l1 : List Int) (a0 : Option Addr) (cap0 : Nat) (a1 : Option Addr) (cap1 : Nat) (w : World)
    (hr0 : Kd.C (Kd.int .u8) w a0 l0.length l0) (hc0 : l0.length ≤ cap0) (hr1 : Kd.C (Kd.int .u8) w a1 l1.length l1) (hc1 : l1.length ≤ cap1) (hbg : laws_big.f l0 l1 = some false) (hdr : spec_DrawNeedOf.f k l0 = some (rows, cols, b, p))
    (hA : PlacesA k rows cols b p need false won false) (hC : PlacesC k l1 r c i near two u v list who won5 five) :
    Calls Try.prog 14 #[.slice a0 l0.length cap0, .slice a1 l1.length cap1] w fun e w' => e = .returned (.bool true) ∧ Below w.heap.size w w' := by
  have HR0 := Aside0.mk hr0
  have HC0 := Aside0.mk hc0
  have HR1 := Aside0.mk hr1
  have HC1 := Aside0.mk hc1
  have HBG := Aside0.mk hbg
  have HD := Aside0.mk hdr
  have HA := Aside0.mk hA
  have HC := Aside0.mk hC
  clear hr0 hc0 hr1 hc1 hbg hdr hA hC
  go_enter Try.func14, Try.ntmps14
  go_wp2_with fail
  refine (laws_big.calls _ _ l0 _ _ l1 false _ (by repeat (first | exact HR0.out | apply Kd.C_drewN)) HC0.out (by repeat (first | exact HR1.out | apply Kd.C_drewN)) HC1.out HBG.out).mono ?_
  rintro e w1 ⟨rfl, ⟨q1, rfl⟩⟩
  go_wp2_with fail
  refine (spec_DrawNeedOf.calls k _ _ l0 rows cols b p _ (by repeat (first | exact HR0.out | apply Kd.C_drewN)) HC0.out HD.out).mono ?_
  rintro e W ⟨vb, rfl, RB, B2⟩
  obtain ⟨Ab, cb, rfl⟩ := Kd.R_slice RB
  have CB := Aside0.mk (Kd.R_reads' RB)
  have BB := Aside0.mk (show Below w.heap.size w W from below_step (by repeat (first | exact Below.refl _ _ | apply pw_below_drewN)) B2)
  have HR1 := Aside0.mk (Kd.C_below HR1.out BB.out)
  clear RB B2 HR0 HC0 HD HBG
  go_wp2_with fail
  refine (impl_NeedOf.calls k rows cols _ _ b p need false _ (by repeat (first | exact CB.out.2.2 | apply Kd.C_drewN)) CB.out.2.1 HA.out.nI).mono ?_
  rintro e w3 ⟨rfl, BX⟩
  have X := Aside0.mk (below_step (show Below W.heap.size W _ by repeat (first | exact Below.refl _ _ | apply pw_below_drewN)) BX)
  clear BX
  go_wp2_with fail
  refine (spec_NeedOf.calls k rows cols _ _ b p need false _ (by repeat (first | exact Kd.C_below CB.out.2.2 X.out | apply Kd.C_drewN)) CB.out.2.1 HA.out.nS).mono ?_
  rintro e w4 ⟨rfl, BX⟩
  have X := Aside0.mk (below_step (show Below W.heap.size W _ by repeat (first | exact X.out | apply pw_below_drewN)) BX)
  clear BX
  go_wp2_with fail
  refine (impl_HasWon.calls k rows cols _ _ b p won false _ (by repeat (first | exact Kd.C_below CB.out.2.2 X.out | apply Kd.C_drewN)) CB.out.2.1 HA.out.hw).mono ?_
  rintro e w5 ⟨rfl, BX⟩
  have X := Aside0.mk (below_step (show Below W.heap.size W _ by repeat (first | exact X.out | apply pw_below_drewN)) BX)
  clear BX
  go_wp2_with fail
  refine (spec_DrawHexNear.calls _ _ l1 r c i _ (by repeat (first | exact Kd.C_below HR1.out X.out | apply Kd.C_drewN)) HC1.out HC.out.dn).mono ?_
  rintro e w7 ⟨rfl, BX⟩
  have X := Aside0.mk (below_step (show Below W.heap.size W _ by repeat (first | exact X.out | apply pw_below_drewN)) BX)
  clear BX
  go_wp2_with fail
  refine (impl_HexNear.calls r c i near two _ HC.out.nI).mono ?_
  rintro e w8 ⟨vn, rfl, RN, BX⟩
  have X := Aside0.mk (below_step (show Below W.heap.size W _ by repeat (first | exact X.out | apply pw_below_drewN)) BX)
  obtain ⟨An, cn, rfl⟩ := Kd.R_slice RN
  have CN := Aside0.mk (Kd.R_reads' RN)
  clear BX RN
  go_wp2_with fail
  refine (spec_HexNear.calls k r c i near two _ HC.out.nS).mono ?_
  rintro e w9 ⟨vm, rfl, RM, BX⟩
  have b9 := below_step (show Below w8.heap.size w8 _ by repeat (first | exact Below.refl _ _ | apply pw_below_drewN)) BX
  have X := Aside0.mk (below_step X.out b9)
  obtain ⟨Am, cm, rfl⟩ := Kd.R_slice RM
  have CM := Aside0.mk (Kd.R_reads' RM)
  have CN := Aside0.mk (And.intro CN.out.1 (And.intro CN.out.2.1 (Kd.C_below CN.out.2.2 b9)))
  clear BX RM b9 CB HA
  go_wp2_with fail
  refine (laws_zSame.calls k _ _ near _ _ near true _ (by repeat (first | exact CN.out.2.2 | apply Kd.C_drewN)) CN.out.2.1 (by repeat (first | exact CM.out.2.2 | apply Kd.C_drewN)) CM.out.2.1 HC.out.zs).mono ?_
  rintro e w10 ⟨rfl, ⟨q10, rfl⟩⟩
  clear CM
  go_wp2
  go_loopg [259] near.length (fun gg s259 wr => ∃ m : Nat, s259 = .int .i64 m ∧ m ≤ near.length ∧ near.length - m ≤ gg ∧ Aside0 (Below w9.heap.size w9 wr))
  case atStart => exact ⟨0, rfl, Nat.zero_le _, by omega, ⟨by repeat (first | exact Below.refl _ _ | apply pw_below_drewN)⟩⟩
  case round =>
    obtain ⟨m, rfl, hm, hgg, BW⟩ := hrel
    have hnl := HC.out.nl
    by_cases hlt : m < near.length
    · as_aux_lemma =>
      have hltz : (m : Int) < (near.length : Int) := by omega
      have hm0 : (0 : Int) ≤ (m : Int) := by omega
      obtain ⟨ad, e1, hx⟩ := Kd.at_int (Kd.C_below CN.out.2.2 BW.out) (m : Int) hm0 hltz
      cases e1
      obtain ⟨back, hb1, hb2, hb3⟩ := HC.out.each m hlt
      have HB2 := Aside0.mk hb2
      rw [Int.toNat_natCast] at hx
      generalize hy : rd near (m : Int) = y at hx hb1 hb3
      clear hy hb2
      go_wp2_with fail
      refine (impl_HexNear.calls r c y back true _ hb1).mono ?_
      rintro e w11 ⟨vk, rfl, RK, BX⟩
      have BW := Aside0.mk (below_step (show Below w9.heap.size w9 _ by repeat (first | exact BW.out | apply pw_below_drewN)) BX)
      obtain ⟨Ak, ck, rfl⟩ := Kd.R_slice RK
      have CK := Aside0.mk (Kd.R_reads' RK)
      clear BX RK hx
      by_cases h0 : 0 < m
      · have h0z : (0 : Int) < (m : Int) := by omega
        have hw : wrap64 ((m : Int) - 1) = (m : Int) - 1 := wrapP m h0 (Nat.le_trans hm hnl)
        have hlt2 := hb3 h0
        rw [← hw] at hlt2
        have hm1 : (0 : Int) ≤ wrap64 ((m : Int) - 1) := by rw [hw]; omega
        have hm2 : wrap64 ((m : Int) - 1) < (near.length : Int) := by rw [hw]; omega
        have ht : (wrap64 ((m : Int) - 1)).toNat = m - 1 := by rw [hw]; omega
        clear hw
        obtain ⟨ad2, e2, hx2⟩ := Kd.at_int (Kd.C_below CN.out.2.2 BW.out) (wrap64 ((m : Int) - 1)) hm1 hm2
        cases e2
        rw [ht] at hx2
        clear ht
        generalize rd near (wrap64 ((m : Int) - 1)) = y2 at hx2 hlt2
        have hge : ¬ y2 ≥ y := by omega
        have hge2 : ¬ y ≤ y2 := by omega
        clear hb3
        go_wp2_with fail
        refine (laws_zHas.calls k _ _ back i true _ (by repeat (first | exact CK.out.2.2 | apply Kd.C_drewN)) CK.out.2.1 HB2.out).mono ?_
        rintro e w12 ⟨rfl, ⟨q12, rfl⟩⟩
        go_wp2
        go_roundg (near.length - (m + 1))
        case measure => omega
        case rel => exact ⟨m + 1, by go_num, by omega, Nat.le_refl _, ⟨by repeat (first | exact BW.out | apply pw_below_drewN)⟩⟩
      · have hz : m = 0 := by omega
        subst hz
        clear hb3
        go_wp2_with fail
        refine (laws_zHas.calls k _ _ back i true _ (by repeat (first | exact CK.out.2.2 | apply Kd.C_drewN)) CK.out.2.1 HB2.out).mono ?_
        rintro e w12 ⟨rfl, ⟨q12, rfl⟩⟩
        go_wp2
        go_roundg (near.length - 1)
        case measure => omega
        case rel => exact ⟨1, by go_num, by omega, Nat.le_refl _, ⟨by repeat (first | exact BW.out | apply pw_below_drewN)⟩⟩
    · as_aux_lemma =>
      have hltz : ¬ (m : Int) < (near.length : Int) := by omega
      have X := Aside0.mk (below_step X.out BW.out)
      clear BW CN hm hgg hlt hnl
      go_wp2_with fail
      refine (spec_DrawHasWon.calls k _ _ l1 u v list who _ (by repeat (first | exact Kd.C_below HR1.out X.out | apply Kd.C_drewN)) HC1.out HC.out.dh).mono ?_
      rintro e w13 ⟨vl, rfl, RL, BX⟩
      have X := Aside0.mk (below_step (show Below W.heap.size W _ by repeat (first | exact X.out | apply pw_below_drewN)) BX)
      obtain ⟨Al, cl, rfl⟩ := Kd.R_slice RL
      have CL := Aside0.mk (Kd.R_reads' RL)
      clear BX RL
      go_wp2_with fail
      refine (impl_HasWon.calls k u v _ _ list who won5 five _ (by repeat (first | exact CL.out.2.2 | apply Kd.C_drewN)) CL.out.2.1 HC.out.hI).mono ?_
      rintro e w14 ⟨rfl, BX⟩
      have b14 := below_step (show Below w13.heap.size w13 _ by repeat (first | exact Below.refl _ _ | apply pw_below_drewN)) BX
      have X := Aside0.mk (below_step X.out b14)
      have CL := Aside0.mk (And.intro CL.out.1 (And.intro CL.out.2.1 (Kd.C_below CL.out.2.2 b14)))
      clear BX b14
      go_wp2_with fail
      refine (spec_HasWon.calls k u v _ _ list who won5 five _ (by repeat (first | exact CL.out.2.2 | apply Kd.C_drewN)) CL.out.2.1 HC.out.hS).mono ?_
      rintro e w15 ⟨rfl, BX⟩
      have X := Aside0.mk (below_step (show Below W.heap.size W _ by repeat (first | exact X.out | apply pw_below_drewN)) BX)
      clear BX CL
      cases five <;> cases won5 <;> (go_wp2; go_ret; exact ⟨rfl, by repeat (first | exact below_step BB.out X.out | apply pw_below_drewN)⟩)
end Go.Proofs.Ytenaefpbjblmbaa.Q

namespace Go.Proofs.Ytenaefpbjblmbaa.Q
open Go.Proofs.Ytenaefpbjblmbaa.Given Go.RowKit Go.Proofs.YtenaefpbjblmbaaW.PrintWords Go.Proofs.YtenaefpbjblmbaaW.PrintLast Go.Proofs.YtenaefpbjblmbaaW.PrintMore
set_option linter.unusedVariables false
set_option linter.unusedSimpArgs false

set_option maxHeartbeats 64000000 in
set_option maxRecDepth 100000 in
theorem places_B (k : Nat) (rows cols : Int) (b : List Int) (p need : Int) (other : Bool) (winner : Int) (less : Nat → Int) (r c i : Int) (near : List Int) (two : Bool) (u v : Int) (list : List Int) (who : Int) (won5 five : Bool) (l0 l1 : List Int) (a0 : Option Addr) (cap0 : Nat) (a1 : Option Addr) (cap1 : Nat) (w : World)
    (hr0 : Kd.C (Kd.int .u8) w a0 l0.length l0) (hc0 : l0.length ≤ cap0) (hr1 : Kd.C (Kd.int .u8) w a1 l1.length l1) (hc1 : l1.length ≤ cap1) (hbg : laws_big.f l0 l1 = some false) (hdr : spec_DrawNeedOf.f k l0 = some (rows, cols, b, p))
    (hA : PlacesA k rows cols b p need false false true) (hB : PlacesB k rows cols b p need false false other winner less) (hC : PlacesC k l1 r c i near two u v list who won5 five) :
    Calls Try.prog 14 #[.slice a0 l0.length cap0, .slice a1 l1.length cap1] w fun e w' => e = .returned (.bool true) ∧ Below w.heap.size w w' := by
  have HR0 := Aside0.mk hr0
  have HC0 := Aside0.mk hc0
  have HR1 := Aside0.mk hr1
  have HC1 := Aside0.mk hc1
  have HBG := Aside0.mk hbg
  have HD := Aside0.mk hdr
  have HA := Aside0.mk hA
  have HB := Aside0.mk hB
  have HC := Aside0.mk hC
  clear hr0 hc0 hr1 hc1 hbg hdr hA hC hB
  go_enter Try.func14, Try.ntmps14
  go_wp2_with fail
  refine (laws_big.calls _ _ l0 _ _ l1 false _ (by repeat (first | exact HR0.out | apply Kd.C_drewN)) HC0.out (by repeat (first | exact HR1.out | apply Kd.C_drewN)) HC1.out HBG.out).mono ?_
  rintro e w1 ⟨rfl, ⟨q1, rfl⟩⟩
  go_wp2_with fail
  refine (spec_DrawNeedOf.calls k _ _ l0 rows cols b p _ (by repeat (first | exact HR0.out | apply Kd.C_drewN)) HC0.out HD.out).mono ?_
  rintro e W ⟨vb, rfl, RB, B2⟩
  obtain ⟨Ab, cb, rfl⟩ := Kd.R_slice RB
  have CB := Aside0.mk (Kd.R_reads' RB)
  have BB := Aside0.mk (show Below w.heap.size w W from below_step (by repeat (first | exact Below.refl _ _ | apply pw_below_drewN)) B2)
  have HR1 := Aside0.mk (Kd.C_below HR1.out BB.out)
  clear RB B2 HR0 HC0 HD HBG
  go_wp2_with fail
  refine (impl_NeedOf.calls k rows cols _ _ b p need false _ (by repeat (first | exact CB.out.2.2 | apply Kd.C_drewN)) CB.out.2.1 HA.out.nI).mono ?_
  rintro e w3 ⟨rfl, BX⟩
  have X := Aside0.mk (below_step (show Below W.heap.size W _ by repeat (first | exact Below.refl _ _ | apply pw_below_drewN)) BX)
  clear BX
  go_wp2_with fail
  refine (spec_NeedOf.calls k rows cols _ _ b p need false _ (by repeat (first | exact Kd.C_below CB.out.2.2 X.out | apply Kd.C_drewN)) CB.out.2.1 HA.out.nS).mono ?_
  rintro e w4 ⟨rfl, BX⟩
  have X := Aside0.mk (below_step (show Below W.heap.size W _ by repeat (first | exact X.out | apply pw_below_drewN)) BX)
  clear BX
  go_wp2_with fail
  refine (impl_HasWon.calls k rows cols _ _ b p false true _ (by repeat (first | exact Kd.C_below CB.out.2.2 X.out | apply Kd.C_drewN)) CB.out.2.1 HA.out.hw).mono ?_
  rintro e w5 ⟨rfl, BX⟩
  have X := Aside0.mk (below_step (show Below W.heap.size W _ by repeat (first | exact X.out | apply pw_below_drewN)) BX)
  clear BX
  go_wp2_with fail
  refine (impl_HasWon.calls k rows cols _ _ b _ other true _ (by repeat (first | exact Kd.C_below CB.out.2.2 X.out | apply Kd.C_drewN)) CB.out.2.1 HB.out.ho).mono ?_
  rintro e w6 ⟨rfl, BX⟩
  have X := Aside0.mk (below_step (show Below W.heap.size W _ by repeat (first | exact X.out | apply pw_below_drewN)) BX)
  clear BX
  have hlen := HA.out.len
  go_wp2_with ((with_reducible refine gate_dst (N := 131) rfl ?_); refine Kd.R_make (Kd.int .i64) _ 3 rfl (N := 131) rfl 24 _ _ rfl (b.length : Int) rfl rfl Try.underlying24 (.int .i64 0) 8 info3 rfl (by decide) (by omega) 0 (ok := fun _ => True) (okp := fun _ => True) rfl (fun _ hk => hk) trivial (by omega) (by simp; omega) (Below.refl _ _) (Nat.le_refl _) ?_; intro v7 w7 ho hb hg_ hat; clear hg_; simp only [Int.toNat_natCast] at ho; have hX := below_step (show Below W.heap.size W _ by repeat (first | exact X.out | apply pw_below_drewN)) hb; have HO := Aside0.mk (Kd.R_lower ho (below_size (show Below W.heap.size W _ by repeat (first | exact X.out | apply pw_below_drewN)))); have X := Aside0.mk hX; clear hX hb ho hat)
  go_loopg [18, 134] b.length (fun gg s18 s134 wr => ∃ (m : Nat) (Xs : List Int), s18 = .int .i64 (freeN b m) ∧ s134 = .int .i64 m ∧ m ≤ b.length ∧ b.length - m ≤ gg ∧ Xs.length = b.length ∧ Aside0 (∀ j : Nat, j < m → Xs.getD j 0 = fillP p (b.getD j 0)) ∧ Aside0 (Kd.R (Kd.int .i64) 3 wr W.heap.size (fun _ => True) v7 Xs) ∧ Aside0 (Below W.heap.size W wr))
  case atStart => exact ⟨0, List.replicate b.length 0, rfl, rfl, Nat.zero_le _, by omega, List.length_replicate .., ⟨fun j hj => absurd hj (Nat.not_lt_zero _)⟩, ⟨by repeat (first | exact HO.out | apply Kd.R_drewN)⟩, ⟨by repeat (first | exact X.out | apply pw_below_drewN)⟩⟩
  case round =>
    obtain ⟨m, Xs, rfl, rfl, hm, hgg, hXl, HF, HO, BW⟩ := hrel
    by_cases hlt : m < b.length
    · as_aux_lemma =>
      have hltz : (m : Int) < (b.length : Int) := by omega
      have hm0 : (0 : Int) ≤ (m : Int) := by omega
      have hXz : (m : Int) < (Xs.length : Int) := by omega
      obtain ⟨ad, e1, hx⟩ := Kd.at_int (Kd.C_below CB.out.2.2 BW.out) (m : Int) hm0 hltz
      cases e1
      rw [Int.toNat_natCast] at hx
      have hfr := freeN_bound b m
      have hfs : freeN b (m + 1) = if rd b (m : Int) = 0 then freeN b m + 1 else freeN b m := rfl
      have hyb : rd b (m : Int) = b.getD m 0 := by unfold rd; rw [Int.toNat_natCast]
      generalize hfz : freeN b m = z at hfr hfs
      generalize hy : rd b (m : Int) = y at hx hfs hyb
      have HFR := Aside0.mk hfr
      have HYB := Aside0.mk hyb
      clear hfr hyb hy hfz
      obtain ⟨go9, co9, eo9, gb9, gl9, cl9, HG9⟩ := Kd.R_form HO.out (by omega)
      cases eo9
      have GB9 := Aside0.mk gb9
      clear gb9 gl9 HG9
      obtain ⟨hx9, hf9⟩ := Kd.R_celln 0 HO.out (m : Int) hm0 hXz
      have HP := Kd.R_putg HO.out (m : Int) y
      rw [Int.toNat_natCast] at hx9 hf9 HP
      by_cases h0 : y = 0
      · as_aux_lemma =>
        subst h0
        rw [if_pos rfl] at hfs
        have HFS := Aside0.mk hfs
        clear hfs
        go_wp2_with (first | ((with_reducible refine gate_store (t := 3) (p := 142) rfl ?_); refine store_event (t := 3) (p := 142) (v := ?vo_w11) (w1 := (wr.setCell ⟨go9, m, none⟩ (.int .i64 0))) ?hg ?ho ?hn ?hr ?_; (case ho => rfl); (case hg => rfl); (case hn => rfl); (case hr => first | (go_simp; done) | (go_simp; rfl)); intro w11 hw; have hp_ : Kd.R (Kd.int .i64) 3 w11 W.heap.size (fun _ => True) (.slice (some ⟨go9, 0, none⟩) Xs.length co9) (Xs.set m 0) := (by rw [hw]; exact HP.1); have BW1 := Aside0.mk ((by rw [hw]; exact below_set BW.out GB9.out : Below W.heap.size W w11)); obtain ⟨hx10, hf10⟩ := Kd.R_celln 0 hp_ (m : Int) hm0 hXz; have HP2 := Kd.R_putg hp_ (m : Int) p; rw [Int.toNat_natCast] at hx10 hf10 HP2; clear HP hw hp_) | ((with_reducible refine gate_store (t := 3) (p := 148) rfl ?_); refine store_event (t := 3) (p := 148) (v := ?vo_w12) (w1 := (w11.setCell ⟨go9, m, none⟩ (.int .i64 p))) ?hg ?ho ?hn ?hr ?_; (case ho => rfl); (case hg => rfl); (case hn => rfl); (case hr => first | (go_simp; done) | (go_simp; rfl)); intro w12 hw; have hp_ : Kd.R (Kd.int .i64) 3 w12 W.heap.size (fun _ => True) (.slice (some ⟨go9, 0, none⟩) Xs.length co9) ((Xs.set m 0).set m p) := (by rw [hw]; exact HP2.1); have HO2 := Aside0.mk hp_; have BW2 := Aside0.mk ((by rw [hw]; exact below_set BW1.out GB9.out : Below W.heap.size W w12)); clear HP2 hw hp_))
        go_roundg (b.length - (m + 1))
        case measure => omega
        case rel => exact ⟨m + 1, (Xs.set m 0).set m p, by have h := HFR.out; rw [HFS.out, wrap_up h.1 (Nat.le_trans (Nat.le_of_lt hlt) hlen) h.2], by go_num, by omega, Nat.le_refl _, by simp [hXl], ⟨filled_step HF.out (by omega) (by rw [List.length_set]; omega) (fun j hj => by rw [List.getD_eq_getElem?_getD, List.getElem?_set_ne (by omega), ← List.getD_eq_getElem?_getD]) (by rw [← HYB.out]; unfold fillP; rw [if_pos rfl])⟩, ⟨by repeat (first | exact HO2.out | apply Kd.R_drewN)⟩, ⟨by repeat (first | exact BW2.out | apply pw_below_drewN)⟩⟩
      · as_aux_lemma =>
        rw [if_neg h0] at hfs
        have HFS := Aside0.mk hfs
        have h0b : (y == 0) = false := beq_eq_false_iff_ne.2 h0
        clear hfs
        go_wp2_with ((with_reducible refine gate_store (t := 3) (p := 142) rfl ?_); refine store_event (t := 3) (p := 142) (v := ?vo_w11) (w1 := (wr.setCell ⟨go9, m, none⟩ (.int .i64 y))) ?hg ?ho ?hn ?hr ?_; (case ho => rfl); (case hg => rfl); (case hn => rfl); (case hr => first | (go_simp; done) | (go_simp; rfl)); intro w11 hw; have hp_ : Kd.R (Kd.int .i64) 3 w11 W.heap.size (fun _ => True) (.slice (some ⟨go9, 0, none⟩) Xs.length co9) (Xs.set m y) := (by rw [hw]; exact HP.1); have BW1 := Aside0.mk ((by rw [hw]; exact below_set BW.out GB9.out : Below W.heap.size W w11)); have HO1 := Aside0.mk hp_; clear HP hw hp_)
        go_roundg (b.length - (m + 1))
        case measure => omega
        case rel => exact ⟨m + 1, Xs.set m y, by rw [HFS.out], by go_num, by omega, Nat.le_refl _, by simp [hXl], ⟨filled_step (Ys := Xs) HF.out (by omega) (by omega) (fun j hj => rfl) (by rw [← HYB.out]; unfold fillP; rw [if_neg h0])⟩, ⟨by repeat (first | exact HO1.out | apply Kd.R_drewN)⟩, ⟨by repeat (first | exact BW1.out | apply pw_below_drewN)⟩⟩
    · as_aux_lemma =>
      have hmb : m = b.length := by omega
      have hXs : Xs = b.map (fillP p) := filled_end hXl (by rw [← hmb]; exact HF.out)
      have HW := Aside0.mk (show impl_WinnerOf.f k rows cols Xs = some (winner, true) by rw [hXs]; exact HB.out.wn)
      have hltz : ¬ (m : Int) < (b.length : Int) := by omega
      have HFR := Aside0.mk (show freeN b m = freeN b b.length by rw [hmb])
      generalize freeN b m = fr at HFR
      obtain ⟨Af, cf, rfl⟩ := Kd.R_slice HO.out
      have CF := Aside0.mk (Kd.R_reads' HO.out)
      have X := Aside0.mk BW.out
      clear HF HO BW hm hgg hXl hlt hXs hmb
      go_wp2_with fail
      refine (impl_WinnerOf.calls k rows cols _ _ Xs winner true _ (by repeat (first | exact CF.out.2.2 | apply Kd.C_drewN)) CF.out.2.1 HW.out).mono ?_
      rintro e w8 ⟨rfl, BX⟩
      have X := Aside0.mk (below_step (show Below W.heap.size W _ by repeat (first | exact X.out | apply pw_below_drewN)) BX)
      clear BX CF HW
      have t4 := HB.out.t4
      clear HFR
      go_wp2_with fail
      refine (spec_DrawHexNear.calls _ _ l1 r c i _ (by repeat (first | exact Kd.C_below HR1.out X.out | apply Kd.C_drewN)) HC1.out HC.out.dn).mono ?_
      rintro e w7 ⟨rfl, BX⟩
      have X := Aside0.mk (below_step (show Below W.heap.size W _ by repeat (first | exact X.out | apply pw_below_drewN)) BX)
      clear BX
      go_wp2_with fail
      refine (impl_HexNear.calls r c i near two _ HC.out.nI).mono ?_
      rintro e w8 ⟨vn, rfl, RN, BX⟩
      have X := Aside0.mk (below_step (show Below W.heap.size W _ by repeat (first | exact X.out | apply pw_below_drewN)) BX)
      obtain ⟨An, cn, rfl⟩ := Kd.R_slice RN
      have CN := Aside0.mk (Kd.R_reads' RN)
      clear BX RN
      go_wp2_with fail
      refine (spec_HexNear.calls k r c i near two _ HC.out.nS).mono ?_
      rintro e w9 ⟨vm, rfl, RM, BX⟩
      have b9 := below_step (show Below w8.heap.size w8 _ by repeat (first | exact Below.refl _ _ | apply pw_below_drewN)) BX
      have X := Aside0.mk (below_step X.out b9)
      obtain ⟨Am, cm, rfl⟩ := Kd.R_slice RM
      have CM := Aside0.mk (Kd.R_reads' RM)
      have CN := Aside0.mk (And.intro CN.out.1 (And.intro CN.out.2.1 (Kd.C_below CN.out.2.2 b9)))
      clear BX RM b9 CB HA
      go_wp2_with fail
      refine (laws_zSame.calls k _ _ near _ _ near true _ (by repeat (first | exact CN.out.2.2 | apply Kd.C_drewN)) CN.out.2.1 (by repeat (first | exact CM.out.2.2 | apply Kd.C_drewN)) CM.out.2.1 HC.out.zs).mono ?_
      rintro e w10 ⟨rfl, ⟨q10, rfl⟩⟩
      clear CM
      go_wp2
      go_loopg [259] near.length (fun gg s259 wr => ∃ m : Nat, s259 = .int .i64 m ∧ m ≤ near.length ∧ near.length - m ≤ gg ∧ Aside0 (Below w9.heap.size w9 wr))
      case atStart => exact ⟨0, rfl, Nat.zero_le _, by omega, ⟨by repeat (first | exact Below.refl _ _ | apply pw_below_drewN)⟩⟩
      case round =>
        obtain ⟨m, rfl, hm, hgg, BW⟩ := hrel
        have hnl := HC.out.nl
        by_cases hlt : m < near.length
        · as_aux_lemma =>
          have hltz : (m : Int) < (near.length : Int) := by omega
          have hm0 : (0 : Int) ≤ (m : Int) := by omega
          obtain ⟨ad, e1, hx⟩ := Kd.at_int (Kd.C_below CN.out.2.2 BW.out) (m : Int) hm0 hltz
          cases e1
          obtain ⟨back, hb1, hb2, hb3⟩ := HC.out.each m hlt
          have HB2 := Aside0.mk hb2
          rw [Int.toNat_natCast] at hx
          generalize hy : rd near (m : Int) = y at hx hb1 hb3
          clear hy hb2
          go_wp2_with fail
          refine (impl_HexNear.calls r c y back true _ hb1).mono ?_
          rintro e w11 ⟨vk, rfl, RK, BX⟩
          have BW := Aside0.mk (below_step (show Below w9.heap.size w9 _ by repeat (first | exact BW.out | apply pw_below_drewN)) BX)
          obtain ⟨Ak, ck, rfl⟩ := Kd.R_slice RK
          have CK := Aside0.mk (Kd.R_reads' RK)
          clear BX RK hx
          by_cases h0 : 0 < m
          · have h0z : (0 : Int) < (m : Int) := by omega
            have hw : wrap64 ((m : Int) - 1) = (m : Int) - 1 := wrapP m h0 (Nat.le_trans hm hnl)
            have hlt2 := hb3 h0
            rw [← hw] at hlt2
            have hm1 : (0 : Int) ≤ wrap64 ((m : Int) - 1) := by rw [hw]; omega
            have hm2 : wrap64 ((m : Int) - 1) < (near.length : Int) := by rw [hw]; omega
            have ht : (wrap64 ((m : Int) - 1)).toNat = m - 1 := by rw [hw]; omega
            clear hw
            obtain ⟨ad2, e2, hx2⟩ := Kd.at_int (Kd.C_below CN.out.2.2 BW.out) (wrap64 ((m : Int) - 1)) hm1 hm2
            cases e2
            rw [ht] at hx2
            clear ht
            generalize rd near (wrap64 ((m : Int) - 1)) = y2 at hx2 hlt2
            have hge : ¬ y2 ≥ y := by omega
            have hge2 : ¬ y ≤ y2 := by omega
            clear hb3
            go_wp2_with fail
            refine (laws_zHas.calls k _ _ back i true _ (by repeat (first | exact CK.out.2.2 | apply Kd.C_drewN)) CK.out.2.1 HB2.out).mono ?_
            rintro e w12 ⟨rfl, ⟨q12, rfl⟩⟩
            go_wp2
            go_roundg (near.length - (m + 1))
            case measure => omega
            case rel => exact ⟨m + 1, by go_num, by omega, Nat.le_refl _, ⟨by repeat (first | exact BW.out | apply pw_below_drewN)⟩⟩
          · have hz : m = 0 := by omega
            subst hz
            clear hb3
            go_wp2_with fail
            refine (laws_zHas.calls k _ _ back i true _ (by repeat (first | exact CK.out.2.2 | apply Kd.C_drewN)) CK.out.2.1 HB2.out).mono ?_
            rintro e w12 ⟨rfl, ⟨q12, rfl⟩⟩
            go_wp2
            go_roundg (near.length - 1)
            case measure => omega
            case rel => exact ⟨1, by go_num, by omega, Nat.le_refl _, ⟨by repeat (first | exact BW.out | apply pw_below_drewN)⟩⟩
        · as_aux_lemma =>
          have hltz : ¬ (m : Int) < (near.length : Int) := by omega
          have X := Aside0.mk (below_step X.out BW.out)
          clear BW CN hm hgg hlt hnl
          go_wp2_with fail
          refine (spec_DrawHasWon.calls k _ _ l1 u v list who _ (by repeat (first | exact Kd.C_below HR1.out X.out | apply Kd.C_drewN)) HC1.out HC.out.dh).mono ?_
          rintro e w13 ⟨vl, rfl, RL, BX⟩
          have X := Aside0.mk (below_step (show Below W.heap.size W _ by repeat (first | exact X.out | apply pw_below_drewN)) BX)
          obtain ⟨Al, cl, rfl⟩ := Kd.R_slice RL
          have CL := Aside0.mk (Kd.R_reads' RL)
          clear BX RL
          go_wp2_with fail
          refine (impl_HasWon.calls k u v _ _ list who won5 five _ (by repeat (first | exact CL.out.2.2 | apply Kd.C_drewN)) CL.out.2.1 HC.out.hI).mono ?_
          rintro e w14 ⟨rfl, BX⟩
          have b14 := below_step (show Below w13.heap.size w13 _ by repeat (first | exact Below.refl _ _ | apply pw_below_drewN)) BX
          have X := Aside0.mk (below_step X.out b14)
          have CL := Aside0.mk (And.intro CL.out.1 (And.intro CL.out.2.1 (Kd.C_below CL.out.2.2 b14)))
          clear BX b14
          go_wp2_with fail
          refine (spec_HasWon.calls k u v _ _ list who won5 five _ (by repeat (first | exact CL.out.2.2 | apply Kd.C_drewN)) CL.out.2.1 HC.out.hS).mono ?_
          rintro e w15 ⟨rfl, BX⟩
          have X := Aside0.mk (below_step (show Below W.heap.size W _ by repeat (first | exact X.out | apply pw_below_drewN)) BX)
          clear BX CL
          cases five <;> cases won5 <;> (go_wp2; go_ret; exact ⟨rfl, by repeat (first | exact below_step BB.out X.out | apply pw_below_drewN)⟩)
end Go.Proofs.Ytenaefpbjblmbaa.Q

namespace Go.Proofs.Ytenaefpbjblmbaa.Q
open Go.Proofs.Ytenaefpbjblmbaa.Given Go.RowKit Go.Proofs.YtenaefpbjblmbaaW.PrintWords Go.Proofs.YtenaefpbjblmbaaW.PrintLast Go.Proofs.YtenaefpbjblmbaaW.PrintMore
set_option linter.unusedVariables false
set_option linter.unusedSimpArgs false

set_option maxHeartbeats 64000000 in
set_option maxRecDepth 100000 in
theorem places_C (k : Nat) (rows cols : Int) (b : List Int) (p : Int) (winner : Int) (less : Nat → Int) (r c i : Int) (near : List Int) (two : Bool) (u v : Int) (list : List Int) (who : Int) (won5 five : Bool) (l0 l1 : List Int) (a0 : Option Addr) (cap0 : Nat) (a1 : Option Addr) (cap1 : Nat) (w : World)
    (hr0 : Kd.C (Kd.int .u8) w a0 l0.length l0) (hc0 : l0.length ≤ cap0) (hr1 : Kd.C (Kd.int .u8) w a1 l1.length l1) (hc1 : l1.length ≤ cap1) (hbg : laws_big.f l0 l1 = some false) (hdr : spec_DrawNeedOf.f k l0 = some (rows, cols, b, p))
    (hA : PlacesA k rows cols b p 0 true true true) (hB : PlacesB k rows cols b p 0 true true false winner less) (hC : PlacesC k l1 r c i near two u v list who won5 five) :
    Calls Try.prog 14 #[.slice a0 l0.length cap0, .slice a1 l1.length cap1] w fun e w' => e = .returned (.bool true) ∧ Below w.heap.size w w' := by
  have HR0 := Aside0.mk hr0
  have HC0 := Aside0.mk hc0
  have HR1 := Aside0.mk hr1
  have HC1 := Aside0.mk hc1
  have HBG := Aside0.mk hbg
  have HD := Aside0.mk hdr
  have HA := Aside0.mk hA
  have HB := Aside0.mk hB
  have HC := Aside0.mk hC
  clear hr0 hc0 hr1 hc1 hbg hdr hA hC hB
  go_enter Try.func14, Try.ntmps14
  go_wp2_with fail
  refine (laws_big.calls _ _ l0 _ _ l1 false _ (by repeat (first | exact HR0.out | apply Kd.C_drewN)) HC0.out (by repeat (first | exact HR1.out | apply Kd.C_drewN)) HC1.out HBG.out).mono ?_
  rintro e w1 ⟨rfl, ⟨q1, rfl⟩⟩
  go_wp2_with fail
  refine (spec_DrawNeedOf.calls k _ _ l0 rows cols b p _ (by repeat (first | exact HR0.out | apply Kd.C_drewN)) HC0.out HD.out).mono ?_
  rintro e W ⟨vb, rfl, RB, B2⟩
  obtain ⟨Ab, cb, rfl⟩ := Kd.R_slice RB
  have CB := Aside0.mk (Kd.R_reads' RB)
  have BB := Aside0.mk (show Below w.heap.size w W from below_step (by repeat (first | exact Below.refl _ _ | apply pw_below_drewN)) B2)
  have HR1 := Aside0.mk (Kd.C_below HR1.out BB.out)
  clear RB B2 HR0 HC0 HD HBG
  go_wp2_with fail
  refine (impl_NeedOf.calls k rows cols _ _ b p 0 true _ (by repeat (first | exact CB.out.2.2 | apply Kd.C_drewN)) CB.out.2.1 HA.out.nI).mono ?_
  rintro e w3 ⟨rfl, BX⟩
  have X := Aside0.mk (below_step (show Below W.heap.size W _ by repeat (first | exact Below.refl _ _ | apply pw_below_drewN)) BX)
  clear BX
  go_wp2_with fail
  refine (spec_NeedOf.calls k rows cols _ _ b p 0 true _ (by repeat (first | exact Kd.C_below CB.out.2.2 X.out | apply Kd.C_drewN)) CB.out.2.1 HA.out.nS).mono ?_
  rintro e w4 ⟨rfl, BX⟩
  have X := Aside0.mk (below_step (show Below W.heap.size W _ by repeat (first | exact X.out | apply pw_below_drewN)) BX)
  clear BX
  go_wp2_with fail
  refine (impl_HasWon.calls k rows cols _ _ b p true true _ (by repeat (first | exact Kd.C_below CB.out.2.2 X.out | apply Kd.C_drewN)) CB.out.2.1 HA.out.hw).mono ?_
  rintro e w5 ⟨rfl, BX⟩
  have X := Aside0.mk (below_step (show Below W.heap.size W _ by repeat (first | exact X.out | apply pw_below_drewN)) BX)
  clear BX
  go_wp2_with fail
  refine (impl_HasWon.calls k rows cols _ _ b _ false true _ (by repeat (first | exact Kd.C_below CB.out.2.2 X.out | apply Kd.C_drewN)) CB.out.2.1 HB.out.ho).mono ?_
  rintro e w6 ⟨rfl, BX⟩
  have X := Aside0.mk (below_step (show Below W.heap.size W _ by repeat (first | exact X.out | apply pw_below_drewN)) BX)
  clear BX
  have hlen := HA.out.len
  go_wp2_with ((with_reducible refine gate_dst (N := 131) rfl ?_); refine Kd.R_make (Kd.int .i64) _ 3 rfl (N := 131) rfl 24 _ _ rfl (b.length : Int) rfl rfl Try.underlying24 (.int .i64 0) 8 info3 rfl (by decide) (by omega) 0 (ok := fun _ => True) (okp := fun _ => True) rfl (fun _ hk => hk) trivial (by omega) (by simp; omega) (Below.refl _ _) (Nat.le_refl _) ?_; intro v7 w7 ho hb hg_ hat; clear hg_; simp only [Int.toNat_natCast] at ho; have hX := below_step (show Below W.heap.size W _ by repeat (first | exact X.out | apply pw_below_drewN)) hb; have HO := Aside0.mk (Kd.R_lower ho (below_size (show Below W.heap.size W _ by repeat (first | exact X.out | apply pw_below_drewN)))); have X := Aside0.mk hX; clear hX hb ho hat)
  go_loopg [18, 134] b.length (fun gg s18 s134 wr => ∃ (m : Nat) (Xs : List Int), s18 = .int .i64 (freeN b m) ∧ s134 = .int .i64 m ∧ m ≤ b.length ∧ b.length - m ≤ gg ∧ Xs.length = b.length ∧ Aside0 (∀ j : Nat, j < m → Xs.getD j 0 = fillP p (b.getD j 0)) ∧ Aside0 (Kd.R (Kd.int .i64) 3 wr W.heap.size (fun _ => True) v7 Xs) ∧ Aside0 (Below W.heap.size W wr))
  case atStart => exact ⟨0, List.replicate b.length 0, rfl, rfl, Nat.zero_le _, by omega, List.length_replicate .., ⟨fun j hj => absurd hj (Nat.not_lt_zero _)⟩, ⟨by repeat (first | exact HO.out | apply Kd.R_drewN)⟩, ⟨by repeat (first | exact X.out | apply pw_below_drewN)⟩⟩
  case round =>
    obtain ⟨m, Xs, rfl, rfl, hm, hgg, hXl, HF, HO, BW⟩ := hrel
    by_cases hlt : m < b.length
    · as_aux_lemma =>
      have hltz : (m : Int) < (b.length : Int) := by omega
      have hm0 : (0 : Int) ≤ (m : Int) := by omega
      have hXz : (m : Int) < (Xs.length : Int) := by omega
      obtain ⟨ad, e1, hx⟩ := Kd.at_int (Kd.C_below CB.out.2.2 BW.out) (m : Int) hm0 hltz
      cases e1
      rw [Int.toNat_natCast] at hx
      have hfr := freeN_bound b m
      have hfs : freeN b (m + 1) = if rd b (m : Int) = 0 then freeN b m + 1 else freeN b m := rfl
      have hyb : rd b (m : Int) = b.getD m 0 := by unfold rd; rw [Int.toNat_natCast]
      generalize hfz : freeN b m = z at hfr hfs
      generalize hy : rd b (m : Int) = y at hx hfs hyb
      have HFR := Aside0.mk hfr
      have HYB := Aside0.mk hyb
      clear hfr hyb hy hfz
      obtain ⟨go9, co9, eo9, gb9, gl9, cl9, HG9⟩ := Kd.R_form HO.out (by omega)
      cases eo9
      have GB9 := Aside0.mk gb9
      clear gb9 gl9 HG9
      obtain ⟨hx9, hf9⟩ := Kd.R_celln 0 HO.out (m : Int) hm0 hXz
      have HP := Kd.R_putg HO.out (m : Int) y
      rw [Int.toNat_natCast] at hx9 hf9 HP
      by_cases h0 : y = 0
      · as_aux_lemma =>
        subst h0
        rw [if_pos rfl] at hfs
        have HFS := Aside0.mk hfs
        clear hfs
        go_wp2_with (first | ((with_reducible refine gate_store (t := 3) (p := 142) rfl ?_); refine store_event (t := 3) (p := 142) (v := ?vo_w11) (w1 := (wr.setCell ⟨go9, m, none⟩ (.int .i64 0))) ?hg ?ho ?hn ?hr ?_; (case ho => rfl); (case hg => rfl); (case hn => rfl); (case hr => first | (go_simp; done) | (go_simp; rfl)); intro w11 hw; have hp_ : Kd.R (Kd.int .i64) 3 w11 W.heap.size (fun _ => True) (.slice (some ⟨go9, 0, none⟩) Xs.length co9) (Xs.set m 0) := (by rw [hw]; exact HP.1); have BW1 := Aside0.mk ((by rw [hw]; exact below_set BW.out GB9.out : Below W.heap.size W w11)); obtain ⟨hx10, hf10⟩ := Kd.R_celln 0 hp_ (m : Int) hm0 hXz; have HP2 := Kd.R_putg hp_ (m : Int) p; rw [Int.toNat_natCast] at hx10 hf10 HP2; clear HP hw hp_) | ((with_reducible refine gate_store (t := 3) (p := 148) rfl ?_); refine store_event (t := 3) (p := 148) (v := ?vo_w12) (w1 := (w11.setCell ⟨go9, m, none⟩ (.int .i64 p))) ?hg ?ho ?hn ?hr ?_; (case ho => rfl); (case hg => rfl); (case hn => rfl); (case hr => first | (go_simp; done) | (go_simp; rfl)); intro w12 hw; have hp_ : Kd.R (Kd.int .i64) 3 w12 W.heap.size (fun _ => True) (.slice (some ⟨go9, 0, none⟩) Xs.length co9) ((Xs.set m 0).set m p) := (by rw [hw]; exact HP2.1); have HO2 := Aside0.mk hp_; have BW2 := Aside0.mk ((by rw [hw]; exact below_set BW1.out GB9.out : Below W.heap.size W w12)); clear HP2 hw hp_))
        go_roundg (b.length - (m + 1))
        case measure => omega
        case rel => exact ⟨m + 1, (Xs.set m 0).set m p, by have h := HFR.out; rw [HFS.out, wrap_up h.1 (Nat.le_trans (Nat.le_of_lt hlt) hlen) h.2], by go_num, by omega, Nat.le_refl _, by simp [hXl], ⟨filled_step HF.out (by omega) (by rw [List.length_set]; omega) (fun j hj => by rw [List.getD_eq_getElem?_getD, List.getElem?_set_ne (by omega), ← List.getD_eq_getElem?_getD]) (by rw [← HYB.out]; unfold fillP; rw [if_pos rfl])⟩, ⟨by repeat (first | exact HO2.out | apply Kd.R_drewN)⟩, ⟨by repeat (first | exact BW2.out | apply pw_below_drewN)⟩⟩
      · as_aux_lemma =>
        rw [if_neg h0] at hfs
        have HFS := Aside0.mk hfs
        have h0b : (y == 0) = false := beq_eq_false_iff_ne.2 h0
        clear hfs
        go_wp2_with ((with_reducible refine gate_store (t := 3) (p := 142) rfl ?_); refine store_event (t := 3) (p := 142) (v := ?vo_w11) (w1 := (wr.setCell ⟨go9, m, none⟩ (.int .i64 y))) ?hg ?ho ?hn ?hr ?_; (case ho => rfl); (case hg => rfl); (case hn => rfl); (case hr => first | (go_simp; done) | (go_simp; rfl)); intro w11 hw; have hp_ : Kd.R (Kd.int .i64) 3 w11 W.heap.size (fun _ => True) (.slice (some ⟨go9, 0, none⟩) Xs.length co9) (Xs.set m y) := (by rw [hw]; exact HP.1); have BW1 := Aside0.mk ((by rw [hw]; exact below_set BW.out GB9.out : Below W.heap.size W w11)); have HO1 := Aside0.mk hp_; clear HP hw hp_)
        go_roundg (b.length - (m + 1))
        case measure => omega
        case rel => exact ⟨m + 1, Xs.set m y, by rw [HFS.out], by go_num, by omega, Nat.le_refl _, by simp [hXl], ⟨filled_step (Ys := Xs) HF.out (by omega) (by omega) (fun j hj => rfl) (by rw [← HYB.out]; unfold fillP; rw [if_neg h0])⟩, ⟨by repeat (first | exact HO1.out | apply Kd.R_drewN)⟩, ⟨by repeat (first | exact BW1.out | apply pw_below_drewN)⟩⟩
    · as_aux_lemma =>
      have hmb : m = b.length := by omega
      have hXs : Xs = b.map (fillP p) := filled_end hXl (by rw [← hmb]; exact HF.out)
      have HW := Aside0.mk (show impl_WinnerOf.f k rows cols Xs = some (winner, true) by rw [hXs]; exact HB.out.wn)
      have hltz : ¬ (m : Int) < (b.length : Int) := by omega
      have HFR := Aside0.mk (show freeN b m = freeN b b.length by rw [hmb])
      generalize freeN b m = fr at HFR
      obtain ⟨Af, cf, rfl⟩ := Kd.R_slice HO.out
      have CF := Aside0.mk (Kd.R_reads' HO.out)
      have X := Aside0.mk BW.out
      clear HF HO BW hm hgg hXl hlt hXs hmb
      go_wp2_with fail
      refine (impl_WinnerOf.calls k rows cols _ _ Xs winner true _ (by repeat (first | exact CF.out.2.2 | apply Kd.C_drewN)) CF.out.2.1 HW.out).mono ?_
      rintro e w8 ⟨rfl, BX⟩
      have X := Aside0.mk (below_step (show Below W.heap.size W _ by repeat (first | exact X.out | apply pw_below_drewN)) BX)
      clear BX CF HW
      have t4 := HB.out.t4
      have t5 := HB.out.t5 rfl
      rw [← HFR.out] at t5
      obtain rfl : p = winner := (show winner = p by simpa using t4).symm
      have g1 : decide (fr < 0) = false := decide_eq_false (by omega)
      have g2 : ¬ fr < 0 := by omega
      clear t4 t5 HFR
      go_wp2_with fail
      refine (spec_DrawHexNear.calls _ _ l1 r c i _ (by repeat (first | exact Kd.C_below HR1.out X.out | apply Kd.C_drewN)) HC1.out HC.out.dn).mono ?_
      rintro e w7 ⟨rfl, BX⟩
      have X := Aside0.mk (below_step (show Below W.heap.size W _ by repeat (first | exact X.out | apply pw_below_drewN)) BX)
      clear BX
      go_wp2_with fail
      refine (impl_HexNear.calls r c i near two _ HC.out.nI).mono ?_
      rintro e w8 ⟨vn, rfl, RN, BX⟩
      have X := Aside0.mk (below_step (show Below W.heap.size W _ by repeat (first | exact X.out | apply pw_below_drewN)) BX)
      obtain ⟨An, cn, rfl⟩ := Kd.R_slice RN
      have CN := Aside0.mk (Kd.R_reads' RN)
      clear BX RN
      go_wp2_with fail
      refine (spec_HexNear.calls k r c i near two _ HC.out.nS).mono ?_
      rintro e w9 ⟨vm, rfl, RM, BX⟩
      have b9 := below_step (show Below w8.heap.size w8 _ by repeat (first | exact Below.refl _ _ | apply pw_below_drewN)) BX
      have X := Aside0.mk (below_step X.out b9)
      obtain ⟨Am, cm, rfl⟩ := Kd.R_slice RM
      have CM := Aside0.mk (Kd.R_reads' RM)
      have CN := Aside0.mk (And.intro CN.out.1 (And.intro CN.out.2.1 (Kd.C_below CN.out.2.2 b9)))
      clear BX RM b9 CB HA
      go_wp2_with fail
      refine (laws_zSame.calls k _ _ near _ _ near true _ (by repeat (first | exact CN.out.2.2 | apply Kd.C_drewN)) CN.out.2.1 (by repeat (first | exact CM.out.2.2 | apply Kd.C_drewN)) CM.out.2.1 HC.out.zs).mono ?_
      rintro e w10 ⟨rfl, ⟨q10, rfl⟩⟩
      clear CM
      go_wp2
      go_loopg [259] near.length (fun gg s259 wr => ∃ m : Nat, s259 = .int .i64 m ∧ m ≤ near.length ∧ near.length - m ≤ gg ∧ Aside0 (Below w9.heap.size w9 wr))
      case atStart => exact ⟨0, rfl, Nat.zero_le _, by omega, ⟨by repeat (first | exact Below.refl _ _ | apply pw_below_drewN)⟩⟩
      case round =>
        obtain ⟨m, rfl, hm, hgg, BW⟩ := hrel
        have hnl := HC.out.nl
        by_cases hlt : m < near.length
        · as_aux_lemma =>
          have hltz : (m : Int) < (near.length : Int) := by omega
          have hm0 : (0 : Int) ≤ (m : Int) := by omega
          obtain ⟨ad, e1, hx⟩ := Kd.at_int (Kd.C_below CN.out.2.2 BW.out) (m : Int) hm0 hltz
          cases e1
          obtain ⟨back, hb1, hb2, hb3⟩ := HC.out.each m hlt
          have HB2 := Aside0.mk hb2
          rw [Int.toNat_natCast] at hx
          generalize hy : rd near (m : Int) = y at hx hb1 hb3
          clear hy hb2
          go_wp2_with fail
          refine (impl_HexNear.calls r c y back true _ hb1).mono ?_
          rintro e w11 ⟨vk, rfl, RK, BX⟩
          have BW := Aside0.mk (below_step (show Below w9.heap.size w9 _ by repeat (first | exact BW.out | apply pw_below_drewN)) BX)
          obtain ⟨Ak, ck, rfl⟩ := Kd.R_slice RK
          have CK := Aside0.mk (Kd.R_reads' RK)
          clear BX RK hx
          by_cases h0 : 0 < m
          · have h0z : (0 : Int) < (m : Int) := by omega
            have hw : wrap64 ((m : Int) - 1) = (m : Int) - 1 := wrapP m h0 (Nat.le_trans hm hnl)
            have hlt2 := hb3 h0
            rw [← hw] at hlt2
            have hm1 : (0 : Int) ≤ wrap64 ((m : Int) - 1) := by rw [hw]; omega
            have hm2 : wrap64 ((m : Int) - 1) < (near.length : Int) := by rw [hw]; omega
            have ht : (wrap64 ((m : Int) - 1)).toNat = m - 1 := by rw [hw]; omega
            clear hw
            obtain ⟨ad2, e2, hx2⟩ := Kd.at_int (Kd.C_below CN.out.2.2 BW.out) (wrap64 ((m : Int) - 1)) hm1 hm2
            cases e2
            rw [ht] at hx2
            clear ht
            generalize rd near (wrap64 ((m : Int) - 1)) = y2 at hx2 hlt2
            have hge : ¬ y2 ≥ y := by omega
            have hge2 : ¬ y ≤ y2 := by omega
            clear hb3
            go_wp2_with fail
            refine (laws_zHas.calls k _ _ back i true _ (by repeat (first | exact CK.out.2.2 | apply Kd.C_drewN)) CK.out.2.1 HB2.out).mono ?_
            rintro e w12 ⟨rfl, ⟨q12, rfl⟩⟩
            go_wp2
            go_roundg (near.length - (m + 1))
            case measure => omega
            case rel => exact ⟨m + 1, by go_num, by omega, Nat.le_refl _, ⟨by repeat (first | exact BW.out | apply pw_below_drewN)⟩⟩
          · have hz : m = 0 := by omega
            subst hz
            clear hb3
            go_wp2_with fail
            refine (laws_zHas.calls k _ _ back i true _ (by repeat (first | exact CK.out.2.2 | apply Kd.C_drewN)) CK.out.2.1 HB2.out).mono ?_
            rintro e w12 ⟨rfl, ⟨q12, rfl⟩⟩
            go_wp2
            go_roundg (near.length - 1)
            case measure => omega
            case rel => exact ⟨1, by go_num, by omega, Nat.le_refl _, ⟨by repeat (first | exact BW.out | apply pw_below_drewN)⟩⟩
        · as_aux_lemma =>
          have hltz : ¬ (m : Int) < (near.length : Int) := by omega
          have X := Aside0.mk (below_step X.out BW.out)
          clear BW CN hm hgg hlt hnl
          go_wp2_with fail
          refine (spec_DrawHasWon.calls k _ _ l1 u v list who _ (by repeat (first | exact Kd.C_below HR1.out X.out | apply Kd.C_drewN)) HC1.out HC.out.dh).mono ?_
          rintro e w13 ⟨vl, rfl, RL, BX⟩
          have X := Aside0.mk (below_step (show Below W.heap.size W _ by repeat (first | exact X.out | apply pw_below_drewN)) BX)
          obtain ⟨Al, cl, rfl⟩ := Kd.R_slice RL
          have CL := Aside0.mk (Kd.R_reads' RL)
          clear BX RL
          go_wp2_with fail
          refine (impl_HasWon.calls k u v _ _ list who won5 five _ (by repeat (first | exact CL.out.2.2 | apply Kd.C_drewN)) CL.out.2.1 HC.out.hI).mono ?_
          rintro e w14 ⟨rfl, BX⟩
          have b14 := below_step (show Below w13.heap.size w13 _ by repeat (first | exact Below.refl _ _ | apply pw_below_drewN)) BX
          have X := Aside0.mk (below_step X.out b14)
          have CL := Aside0.mk (And.intro CL.out.1 (And.intro CL.out.2.1 (Kd.C_below CL.out.2.2 b14)))
          clear BX b14
          go_wp2_with fail
          refine (spec_HasWon.calls k u v _ _ list who won5 five _ (by repeat (first | exact CL.out.2.2 | apply Kd.C_drewN)) CL.out.2.1 HC.out.hS).mono ?_
          rintro e w15 ⟨rfl, BX⟩
          have X := Aside0.mk (below_step (show Below W.heap.size W _ by repeat (first | exact X.out | apply pw_below_drewN)) BX)
          clear BX CL
          cases five <;> cases won5 <;> (go_wp2; go_ret; exact ⟨rfl, by repeat (first | exact below_step BB.out X.out | apply pw_below_drewN)⟩)
end Go.Proofs.Ytenaefpbjblmbaa.Q

namespace Go.Proofs.Ytenaefpbjblmbaa.Q
open Go.Proofs.Ytenaefpbjblmbaa.Given Go.RowKit Go.Proofs.YtenaefpbjblmbaaW.PrintWords Go.Proofs.YtenaefpbjblmbaaW.PrintLast Go.Proofs.YtenaefpbjblmbaaW.PrintMore
set_option linter.unusedVariables false
set_option linter.unusedSimpArgs false

set_option maxHeartbeats 64000000 in
set_option maxRecDepth 100000 in
theorem places_D (k : Nat) (rows cols : Int) (b : List Int) (p need : Int) (winner : Int) (less : Nat → Int) (r c i : Int) (near : List Int) (two : Bool) (u v : Int) (list : List Int) (who : Int) (won5 five : Bool) (l0 l1 : List Int) (a0 : Option Addr) (cap0 : Nat) (a1 : Option Addr) (cap1 : Nat) (w : World)
    (hr0 : Kd.C (Kd.int .u8) w a0 l0.length l0) (hc0 : l0.length ≤ cap0) (hr1 : Kd.C (Kd.int .u8) w a1 l1.length l1) (hc1 : l1.length ≤ cap1) (hbg : laws_big.f l0 l1 = some false) (hdr : spec_DrawNeedOf.f k l0 = some (rows, cols, b, p))
    (hA : PlacesA k rows cols b p need true false true) (hB : PlacesB k rows cols b p need true false false winner less) (hn : 0 < need) (hC : PlacesC k l1 r c i near two u v list who won5 five) :
    Calls Try.prog 14 #[.slice a0 l0.length cap0, .slice a1 l1.length cap1] w fun e w' => e = .returned (.bool true) ∧ Below w.heap.size w w' := by
  have HR0 := Aside0.mk hr0
  have HC0 := Aside0.mk hc0
  have HR1 := Aside0.mk hr1
  have HC1 := Aside0.mk hc1
  have HBG := Aside0.mk hbg
  have HD := Aside0.mk hdr
  have HA := Aside0.mk hA
  have HB := Aside0.mk hB
  have HC := Aside0.mk hC
  clear hr0 hc0 hr1 hc1 hbg hdr hA hC hB
  go_enter Try.func14, Try.ntmps14
  have hz : (need == 0) = false := beq_eq_false_iff_ne.2 (by omega)
  go_wp2_with fail
  refine (laws_big.calls _ _ l0 _ _ l1 false _ (by repeat (first | exact HR0.out | apply Kd.C_drewN)) HC0.out (by repeat (first | exact HR1.out | apply Kd.C_drewN)) HC1.out HBG.out).mono ?_
  rintro e w1 ⟨rfl, ⟨q1, rfl⟩⟩
  go_wp2_with fail
  refine (spec_DrawNeedOf.calls k _ _ l0 rows cols b p _ (by repeat (first | exact HR0.out | apply Kd.C_drewN)) HC0.out HD.out).mono ?_
  rintro e W ⟨vb, rfl, RB, B2⟩
  obtain ⟨Ab, cb, rfl⟩ := Kd.R_slice RB
  have CB := Aside0.mk (Kd.R_reads' RB)
  have BB := Aside0.mk (show Below w.heap.size w W from below_step (by repeat (first | exact Below.refl _ _ | apply pw_below_drewN)) B2)
  have HR1 := Aside0.mk (Kd.C_below HR1.out BB.out)
  clear RB B2 HR0 HC0 HD HBG
  go_wp2_with fail
  refine (impl_NeedOf.calls k rows cols _ _ b p need true _ (by repeat (first | exact CB.out.2.2 | apply Kd.C_drewN)) CB.out.2.1 HA.out.nI).mono ?_
  rintro e w3 ⟨rfl, BX⟩
  have X := Aside0.mk (below_step (show Below W.heap.size W _ by repeat (first | exact Below.refl _ _ | apply pw_below_drewN)) BX)
  clear BX
  go_wp2_with fail
  refine (spec_NeedOf.calls k rows cols _ _ b p need true _ (by repeat (first | exact Kd.C_below CB.out.2.2 X.out | apply Kd.C_drewN)) CB.out.2.1 HA.out.nS).mono ?_
  rintro e w4 ⟨rfl, BX⟩
  have X := Aside0.mk (below_step (show Below W.heap.size W _ by repeat (first | exact X.out | apply pw_below_drewN)) BX)
  clear BX
  go_wp2_with fail
  refine (impl_HasWon.calls k rows cols _ _ b p false true _ (by repeat (first | exact Kd.C_below CB.out.2.2 X.out | apply Kd.C_drewN)) CB.out.2.1 HA.out.hw).mono ?_
  rintro e w5 ⟨rfl, BX⟩
  have X := Aside0.mk (below_step (show Below W.heap.size W _ by repeat (first | exact X.out | apply pw_below_drewN)) BX)
  clear BX
  go_wp2_with fail
  refine (impl_HasWon.calls k rows cols _ _ b _ false true _ (by repeat (first | exact Kd.C_below CB.out.2.2 X.out | apply Kd.C_drewN)) CB.out.2.1 HB.out.ho).mono ?_
  rintro e w6 ⟨rfl, BX⟩
  have X := Aside0.mk (below_step (show Below W.heap.size W _ by repeat (first | exact X.out | apply pw_below_drewN)) BX)
  clear BX
  have hlen := HA.out.len
  go_wp2_with ((with_reducible refine gate_dst (N := 131) rfl ?_); refine Kd.R_make (Kd.int .i64) _ 3 rfl (N := 131) rfl 24 _ _ rfl (b.length : Int) rfl rfl Try.underlying24 (.int .i64 0) 8 info3 rfl (by decide) (by omega) 0 (ok := fun _ => True) (okp := fun _ => True) rfl (fun _ hk => hk) trivial (by omega) (by simp; omega) (Below.refl _ _) (Nat.le_refl _) ?_; intro v7 w7 ho hb hg_ hat; clear hg_; simp only [Int.toNat_natCast] at ho; have hX := below_step (show Below W.heap.size W _ by repeat (first | exact X.out | apply pw_below_drewN)) hb; have HO := Aside0.mk (Kd.R_lower ho (below_size (show Below W.heap.size W _ by repeat (first | exact X.out | apply pw_below_drewN)))); have X := Aside0.mk hX; clear hX hb ho hat)
  go_loopg [18, 134] b.length (fun gg s18 s134 wr => ∃ (m : Nat) (Xs : List Int), s18 = .int .i64 (freeN b m) ∧ s134 = .int .i64 m ∧ m ≤ b.length ∧ b.length - m ≤ gg ∧ Xs.length = b.length ∧ Aside0 (∀ j : Nat, j < m → Xs.getD j 0 = fillP p (b.getD j 0)) ∧ Aside0 (Kd.R (Kd.int .i64) 3 wr W.heap.size (fun _ => True) v7 Xs) ∧ Aside0 (Below W.heap.size W wr))
  case atStart => exact ⟨0, List.replicate b.length 0, rfl, rfl, Nat.zero_le _, by omega, List.length_replicate .., ⟨fun j hj => absurd hj (Nat.not_lt_zero _)⟩, ⟨by repeat (first | exact HO.out | apply Kd.R_drewN)⟩, ⟨by repeat (first | exact X.out | apply pw_below_drewN)⟩⟩
  case round =>
    obtain ⟨m, Xs, rfl, rfl, hm, hgg, hXl, HF, HO, BW⟩ := hrel
    by_cases hlt : m < b.length
    · as_aux_lemma =>
      have hltz : (m : Int) < (b.length : Int) := by omega
      have hm0 : (0 : Int) ≤ (m : Int) := by omega
      have hXz : (m : Int) < (Xs.length : Int) := by omega
      obtain ⟨ad, e1, hx⟩ := Kd.at_int (Kd.C_below CB.out.2.2 BW.out) (m : Int) hm0 hltz
      cases e1
      rw [Int.toNat_natCast] at hx
      have hfr := freeN_bound b m
      have hfs : freeN b (m + 1) = if rd b (m : Int) = 0 then freeN b m + 1 else freeN b m := rfl
      have hyb : rd b (m : Int) = b.getD m 0 := by unfold rd; rw [Int.toNat_natCast]
      generalize hfz : freeN b m = z at hfr hfs
      generalize hy : rd b (m : Int) = y at hx hfs hyb
      have HFR := Aside0.mk hfr
      have HYB := Aside0.mk hyb
      clear hfr hyb hy hfz
      obtain ⟨go9, co9, eo9, gb9, gl9, cl9, HG9⟩ := Kd.R_form HO.out (by omega)
      cases eo9
      have GB9 := Aside0.mk gb9
      clear gb9 gl9 HG9
      obtain ⟨hx9, hf9⟩ := Kd.R_celln 0 HO.out (m : Int) hm0 hXz
      have HP := Kd.R_putg HO.out (m : Int) y
      rw [Int.toNat_natCast] at hx9 hf9 HP
      by_cases h0 : y = 0
      · as_aux_lemma =>
        subst h0
        rw [if_pos rfl] at hfs
        have HFS := Aside0.mk hfs
        clear hfs
        go_wp2_with (first | ((with_reducible refine gate_store (t := 3) (p := 142) rfl ?_); refine store_event (t := 3) (p := 142) (v := ?vo_w11) (w1 := (wr.setCell ⟨go9, m, none⟩ (.int .i64 0))) ?hg ?ho ?hn ?hr ?_; (case ho => rfl); (case hg => rfl); (case hn => rfl); (case hr => first | (go_simp; done) | (go_simp; rfl)); intro w11 hw; have hp_ : Kd.R (Kd.int .i64) 3 w11 W.heap.size (fun _ => True) (.slice (some ⟨go9, 0, none⟩) Xs.length co9) (Xs.set m 0) := (by rw [hw]; exact HP.1); have BW1 := Aside0.mk ((by rw [hw]; exact below_set BW.out GB9.out : Below W.heap.size W w11)); obtain ⟨hx10, hf10⟩ := Kd.R_celln 0 hp_ (m : Int) hm0 hXz; have HP2 := Kd.R_putg hp_ (m : Int) p; rw [Int.toNat_natCast] at hx10 hf10 HP2; clear HP hw hp_) | ((with_reducible refine gate_store (t := 3) (p := 148) rfl ?_); refine store_event (t := 3) (p := 148) (v := ?vo_w12) (w1 := (w11.setCell ⟨go9, m, none⟩ (.int .i64 p))) ?hg ?ho ?hn ?hr ?_; (case ho => rfl); (case hg => rfl); (case hn => rfl); (case hr => first | (go_simp; done) | (go_simp; rfl)); intro w12 hw; have hp_ : Kd.R (Kd.int .i64) 3 w12 W.heap.size (fun _ => True) (.slice (some ⟨go9, 0, none⟩) Xs.length co9) ((Xs.set m 0).set m p) := (by rw [hw]; exact HP2.1); have HO2 := Aside0.mk hp_; have BW2 := Aside0.mk ((by rw [hw]; exact below_set BW1.out GB9.out : Below W.heap.size W w12)); clear HP2 hw hp_))
        go_roundg (b.length - (m + 1))
        case measure => omega
        case rel => exact ⟨m + 1, (Xs.set m 0).set m p, by have h := HFR.out; rw [HFS.out, wrap_up h.1 (Nat.le_trans (Nat.le_of_lt hlt) hlen) h.2], by go_num, by omega, Nat.le_refl _, by simp [hXl], ⟨filled_step HF.out (by omega) (by rw [List.length_set]; omega) (fun j hj => by rw [List.getD_eq_getElem?_getD, List.getElem?_set_ne (by omega), ← List.getD_eq_getElem?_getD]) (by rw [← HYB.out]; unfold fillP; rw [if_pos rfl])⟩, ⟨by repeat (first | exact HO2.out | apply Kd.R_drewN)⟩, ⟨by repeat (first | exact BW2.out | apply pw_below_drewN)⟩⟩
      · as_aux_lemma =>
        rw [if_neg h0] at hfs
        have HFS := Aside0.mk hfs
        have h0b : (y == 0) = false := beq_eq_false_iff_ne.2 h0
        clear hfs
        go_wp2_with ((with_reducible refine gate_store (t := 3) (p := 142) rfl ?_); refine store_event (t := 3) (p := 142) (v := ?vo_w11) (w1 := (wr.setCell ⟨go9, m, none⟩ (.int .i64 y))) ?hg ?ho ?hn ?hr ?_; (case ho => rfl); (case hg => rfl); (case hn => rfl); (case hr => first | (go_simp; done) | (go_simp; rfl)); intro w11 hw; have hp_ : Kd.R (Kd.int .i64) 3 w11 W.heap.size (fun _ => True) (.slice (some ⟨go9, 0, none⟩) Xs.length co9) (Xs.set m y) := (by rw [hw]; exact HP.1); have BW1 := Aside0.mk ((by rw [hw]; exact below_set BW.out GB9.out : Below W.heap.size W w11)); have HO1 := Aside0.mk hp_; clear HP hw hp_)
        go_roundg (b.length - (m + 1))
        case measure => omega
        case rel => exact ⟨m + 1, Xs.set m y, by rw [HFS.out], by go_num, by omega, Nat.le_refl _, by simp [hXl], ⟨filled_step (Ys := Xs) HF.out (by omega) (by omega) (fun j hj => rfl) (by rw [← HYB.out]; unfold fillP; rw [if_neg h0])⟩, ⟨by repeat (first | exact HO1.out | apply Kd.R_drewN)⟩, ⟨by repeat (first | exact BW1.out | apply pw_below_drewN)⟩⟩
    · as_aux_lemma =>
      have hmb : m = b.length := by omega
      have hXs : Xs = b.map (fillP p) := filled_end hXl (by rw [← hmb]; exact HF.out)
      have HW := Aside0.mk (show impl_WinnerOf.f k rows cols Xs = some (winner, true) by rw [hXs]; exact HB.out.wn)
      have hltz : ¬ (m : Int) < (b.length : Int) := by omega
      have HFR := Aside0.mk (show freeN b m = freeN b b.length by rw [hmb])
      generalize freeN b m = fr at HFR
      obtain ⟨Af, cf, rfl⟩ := Kd.R_slice HO.out
      have CF := Aside0.mk (Kd.R_reads' HO.out)
      have X := Aside0.mk BW.out
      clear HF HO BW hm hgg hXl hlt hXs hmb
      go_wp2_with fail
      refine (impl_WinnerOf.calls k rows cols _ _ Xs winner true _ (by repeat (first | exact CF.out.2.2 | apply Kd.C_drewN)) CF.out.2.1 HW.out).mono ?_
      rintro e w8 ⟨rfl, BX⟩
      have X := Aside0.mk (below_step (show Below W.heap.size W _ by repeat (first | exact X.out | apply pw_below_drewN)) BX)
      clear BX CF HW
      have t4 := HB.out.t4
      have t5 := HB.out.t5 rfl
      rw [← HFR.out] at t5
      obtain rfl : p = winner := (show winner = p by simpa using t4).symm
      have g1 : decide (fr < need) = false := decide_eq_false (by omega)
      have g2 : ¬ fr < need := by omega
      clear t4 t5 HFR
      have hn1 : decide (0 < need) = true := decide_eq_true hn
      have HN := Aside0.mk hn
      go_wp2
      clear g1 g2 hz hn1
      go_loopg [23, 183] b.length (fun gg s23 s183 wr => ∃ m : Nat, s23 = .bool (foundN less b need m) ∧ s183 = .int .i64 m ∧ m ≤ b.length ∧ b.length - m ≤ gg ∧ Aside0 (Below W.heap.size W wr))
      case atStart => exact ⟨0, rfl, rfl, Nat.zero_le _, by omega, ⟨by repeat (first | exact X.out | apply pw_below_drewN)⟩⟩
      case round =>
        obtain ⟨m, rfl, rfl, hm, hgg, BW⟩ := hrel
        by_cases hlt : m < b.length
        · as_aux_lemma =>
          have hltz : (m : Int) < (b.length : Int) := by omega
          have hm0 : (0 : Int) ≤ (m : Int) := by omega
          obtain ⟨ad, e1, hx⟩ := Kd.at_int (Kd.C_below CB.out.2.2 BW.out) (m : Int) hm0 hltz
          cases e1
          rw [Int.toNat_natCast] at hx
          have hfs : foundN less b need (m + 1) = if rd b (m : Int) = 0 then (foundN less b need m || (less m == wrap64 (need - 1))) else foundN less b need m := rfl
          have hse := HB.out.se rfl HN.out m hlt
          generalize foundN less b need m = fd at hfs ⊢
          generalize less m = ls at hfs hse
          generalize hy : rd b (m : Int) = y at hx hfs hse
          clear hy
          by_cases h0 : y = 0
          · as_aux_lemma =>
            subst h0
            rw [if_pos rfl] at hfs
            obtain ⟨hc, hl1, hl2⟩ := hse rfl
            have hsl : (b.set m p).length = b.length := List.length_set
            clear hse
            generalize hYY : b.set m p = Y at hc hsl
            have HY := Aside0.mk hYY
            have HSL := Aside0.mk hsl
            have HC2 := Aside0.mk hc
            have HFS := Aside0.mk hfs
            have HL1 := Aside0.mk hl1
            have HL2 := Aside0.mk hl2
            clear hc hfs hl1 hl2 hYY hsl
            go_upto_region 33 with (at_builtin; go_loud (refine Kd.R_append_rows (Kd.int .i64) (w0 := W) W.heap.size rfl (.tmp 190) (.tmp 191) 24 3 (.int .i64 0) 8 rfl Try.underlying24 infoC rfl (by decide) (by omega) (.slice (some ⟨_, 0, none⟩) 0 0) [] b _ _ _ (fun _ => True) (fun _ => False) rfl rfl ?aO ?aR (fun _ _ h => h) (fun _ h => h.elim) ?aF ?aB ?aS ?aL ?_; (case aF => exact (fun k_ hk => trivial)); (case aO => exact lit0c _ W.heap.size (fun _ => True) (below_size (by repeat (first | exact BW.out | apply pw_below_drewN))) trivial); (case aR => exact Kd.C_alloc (by repeat (first | exact Kd.C_below CB.out.2.2 BW.out | apply Kd.C_drewN)) _); (case aB => exact below_alloc (by repeat (first | exact BW.out | apply pw_below_drewN)) _); (case aS => exact below_size (below_alloc (by repeat (first | exact BW.out | apply pw_below_drewN)) _)); (case aL => simp; omega); intro v1 w11 ho hb hg hat; clear hg hat; rw [List.nil_append] at ho; have BW1 := Aside0.mk hb; obtain ⟨gA, cA, eA, gbA, glA, clA, HGA⟩ := Kd.R_form ho (by omega); cases eA; have GBA := Aside0.mk gbA; obtain ⟨hx9, hf9⟩ := Kd.R_celln 0 ho (m : Int) hm0 hltz; have HP := Kd.R_putg ho (m : Int) p; rw [Int.toNat_natCast] at hx9 hf9 HP; clear ho hb gbA glA clA HGA))
            go_wp2_with ((with_reducible refine gate_store (t := 3) (p := 196) rfl ?_); refine store_event (t := 3) (p := 196) (v := ?vo_w22) (w1 := (w11.setCell ⟨gA, m, none⟩ (.int .i64 p))) ?hg ?ho ?hn ?hr ?_; (case ho => rfl); (case hg => rfl); (case hn => rfl); (case hr => first | (go_simp; done) | (go_simp; rfl)); intro w12 hw; have hp_ : Kd.R (Kd.int .i64) 3 w12 W.heap.size (fun _ => True) (.slice (some ⟨gA, 0, none⟩) b.length cA) Y := (by rw [hw, ← HY.out]; exact HP.1); have BW2 := Aside0.mk ((by rw [hw]; exact below_set BW1.out GBA.out : Below W.heap.size W w12)); clear HP hw; generalize (Value.slice (some ⟨gA, 0, none⟩) b.length cA) = v2 at hp_ ⊢; obtain ⟨A2, c2, rfl⟩ := Kd.R_slice hp_; have CY := Aside0.mk (Kd.R_reads' hp_); clear hp_ hx9 hf9)
            refine (impl_NeedOf.calls k rows cols _ _ Y p ls true _ (by repeat (first | exact CY.out.2.2 | apply Kd.C_drewN)) CY.out.2.1 HC2.out).mono ?_
            rintro e w13 ⟨rfl, BX⟩
            have BW3 := Aside0.mk (below_step (show Below W.heap.size W _ by repeat (first | exact BW2.out | apply pw_below_drewN)) BX)
            clear BX CY HC2 HY HSL BW BW1 BW2
            have g1 : decide (ls < wrap64 (need - 1)) = false := decide_eq_false (by have h1 := HL1.out; have h2 := HL2.out; omega)
            have g2 : decide (need < ls) = false := decide_eq_false (by have h2 := HL2.out; omega)
            cases fd with
            | true =>
              as_aux_lemma =>
              go_wp2
              go_roundg (b.length - (m + 1))
              case measure => omega
              case rel => exact ⟨m + 1, by rw [HFS.out]; rfl, by go_num, by omega, Nat.le_refl _, ⟨by repeat (first | exact BW3.out | apply pw_below_drewN)⟩⟩
            | false =>
              as_aux_lemma =>
              go_wp2
              go_roundg (b.length - (m + 1))
              case measure => omega
              case rel => exact ⟨m + 1, by rw [HFS.out]; rfl, by go_num, by omega, Nat.le_refl _, ⟨by repeat (first | exact BW3.out | apply pw_below_drewN)⟩⟩
          · as_aux_lemma =>
            rw [if_neg h0] at hfs
            have HFS := Aside0.mk hfs
            have h0b : (y == 0) = false := beq_eq_false_iff_ne.2 h0
            have h0c : (y != 0) = true := bne_iff_ne.2 h0
            clear hfs hse
            go_wp2
            go_roundg (b.length - (m + 1))
            case measure => omega
            case rel => exact ⟨m + 1, by rw [HFS.out], by go_num, by omega, Nat.le_refl _, ⟨by repeat (first | exact BW.out | apply pw_below_drewN)⟩⟩
        · as_aux_lemma =>
          have hltz : ¬ (m : Int) < (b.length : Int) := by omega
          have hmb : m = b.length := by omega
          have hfo := HB.out.fo rfl HN.out
          rw [← hmb] at hfo
          rw [hfo]
          clear hfo hm hgg hlt hmb
          have X := Aside0.mk BW.out
          clear BW
          go_wp2_with fail
          refine (spec_DrawHexNear.calls _ _ l1 r c i _ (by repeat (first | exact Kd.C_below HR1.out X.out | apply Kd.C_drewN)) HC1.out HC.out.dn).mono ?_
          rintro e w7 ⟨rfl, BX⟩
          have X := Aside0.mk (below_step (show Below W.heap.size W _ by repeat (first | exact X.out | apply pw_below_drewN)) BX)
          clear BX
          go_wp2_with fail
          refine (impl_HexNear.calls r c i near two _ HC.out.nI).mono ?_
          rintro e w8 ⟨vn, rfl, RN, BX⟩
          have X := Aside0.mk (below_step (show Below W.heap.size W _ by repeat (first | exact X.out | apply pw_below_drewN)) BX)
          obtain ⟨An, cn, rfl⟩ := Kd.R_slice RN
          have CN := Aside0.mk (Kd.R_reads' RN)
          clear BX RN
          go_wp2_with fail
          refine (spec_HexNear.calls k r c i near two _ HC.out.nS).mono ?_
          rintro e w9 ⟨vm, rfl, RM, BX⟩
          have b9 := below_step (show Below w8.heap.size w8 _ by repeat (first | exact Below.refl _ _ | apply pw_below_drewN)) BX
          have X := Aside0.mk (below_step X.out b9)
          obtain ⟨Am, cm, rfl⟩ := Kd.R_slice RM
          have CM := Aside0.mk (Kd.R_reads' RM)
          have CN := Aside0.mk (And.intro CN.out.1 (And.intro CN.out.2.1 (Kd.C_below CN.out.2.2 b9)))
          clear BX RM b9 CB HA
          go_wp2_with fail
          refine (laws_zSame.calls k _ _ near _ _ near true _ (by repeat (first | exact CN.out.2.2 | apply Kd.C_drewN)) CN.out.2.1 (by repeat (first | exact CM.out.2.2 | apply Kd.C_drewN)) CM.out.2.1 HC.out.zs).mono ?_
          rintro e w10 ⟨rfl, ⟨q10, rfl⟩⟩
          clear CM
          go_wp2
          go_loopg [259] near.length (fun gg s259 wr => ∃ m : Nat, s259 = .int .i64 m ∧ m ≤ near.length ∧ near.length - m ≤ gg ∧ Aside0 (Below w9.heap.size w9 wr))
          case atStart => exact ⟨0, rfl, Nat.zero_le _, by omega, ⟨by repeat (first | exact Below.refl _ _ | apply pw_below_drewN)⟩⟩
          case round =>
            obtain ⟨m, rfl, hm, hgg, BW⟩ := hrel
            have hnl := HC.out.nl
            by_cases hlt : m < near.length
            · as_aux_lemma =>
              have hltz : (m : Int) < (near.length : Int) := by omega
              have hm0 : (0 : Int) ≤ (m : Int) := by omega
              obtain ⟨ad, e1, hx⟩ := Kd.at_int (Kd.C_below CN.out.2.2 BW.out) (m : Int) hm0 hltz
              cases e1
              obtain ⟨back, hb1, hb2, hb3⟩ := HC.out.each m hlt
              have HB2 := Aside0.mk hb2
              rw [Int.toNat_natCast] at hx
              generalize hy : rd near (m : Int) = y at hx hb1 hb3
              clear hy hb2
              go_wp2_with fail
              refine (impl_HexNear.calls r c y back true _ hb1).mono ?_
              rintro e w11 ⟨vk, rfl, RK, BX⟩
              have BW := Aside0.mk (below_step (show Below w9.heap.size w9 _ by repeat (first | exact BW.out | apply pw_below_drewN)) BX)
              obtain ⟨Ak, ck, rfl⟩ := Kd.R_slice RK
              have CK := Aside0.mk (Kd.R_reads' RK)
              clear BX RK hx
              by_cases h0 : 0 < m
              · have h0z : (0 : Int) < (m : Int) := by omega
                have hw : wrap64 ((m : Int) - 1) = (m : Int) - 1 := wrapP m h0 (Nat.le_trans hm hnl)
                have hlt2 := hb3 h0
                rw [← hw] at hlt2
                have hm1 : (0 : Int) ≤ wrap64 ((m : Int) - 1) := by rw [hw]; omega
                have hm2 : wrap64 ((m : Int) - 1) < (near.length : Int) := by rw [hw]; omega
                have ht : (wrap64 ((m : Int) - 1)).toNat = m - 1 := by rw [hw]; omega
                clear hw
                obtain ⟨ad2, e2, hx2⟩ := Kd.at_int (Kd.C_below CN.out.2.2 BW.out) (wrap64 ((m : Int) - 1)) hm1 hm2
                cases e2
                rw [ht] at hx2
                clear ht
                generalize rd near (wrap64 ((m : Int) - 1)) = y2 at hx2 hlt2
                have hge : ¬ y2 ≥ y := by omega
                have hge2 : ¬ y ≤ y2 := by omega
                clear hb3
                go_wp2_with fail
                refine (laws_zHas.calls k _ _ back i true _ (by repeat (first | exact CK.out.2.2 | apply Kd.C_drewN)) CK.out.2.1 HB2.out).mono ?_
                rintro e w12 ⟨rfl, ⟨q12, rfl⟩⟩
                go_wp2
                go_roundg (near.length - (m + 1))
                case measure => omega
                case rel => exact ⟨m + 1, by go_num, by omega, Nat.le_refl _, ⟨by repeat (first | exact BW.out | apply pw_below_drewN)⟩⟩
              · have hz : m = 0 := by omega
                subst hz
                clear hb3
                go_wp2_with fail
                refine (laws_zHas.calls k _ _ back i true _ (by repeat (first | exact CK.out.2.2 | apply Kd.C_drewN)) CK.out.2.1 HB2.out).mono ?_
                rintro e w12 ⟨rfl, ⟨q12, rfl⟩⟩
                go_wp2
                go_roundg (near.length - 1)
                case measure => omega
                case rel => exact ⟨1, by go_num, by omega, Nat.le_refl _, ⟨by repeat (first | exact BW.out | apply pw_below_drewN)⟩⟩
            · as_aux_lemma =>
              have hltz : ¬ (m : Int) < (near.length : Int) := by omega
              have X := Aside0.mk (below_step X.out BW.out)
              clear BW CN hm hgg hlt hnl
              go_wp2_with fail
              refine (spec_DrawHasWon.calls k _ _ l1 u v list who _ (by repeat (first | exact Kd.C_below HR1.out X.out | apply Kd.C_drewN)) HC1.out HC.out.dh).mono ?_
              rintro e w13 ⟨vl, rfl, RL, BX⟩
              have X := Aside0.mk (below_step (show Below W.heap.size W _ by repeat (first | exact X.out | apply pw_below_drewN)) BX)
              obtain ⟨Al, cl, rfl⟩ := Kd.R_slice RL
              have CL := Aside0.mk (Kd.R_reads' RL)
              clear BX RL
              go_wp2_with fail
              refine (impl_HasWon.calls k u v _ _ list who won5 five _ (by repeat (first | exact CL.out.2.2 | apply Kd.C_drewN)) CL.out.2.1 HC.out.hI).mono ?_
              rintro e w14 ⟨rfl, BX⟩
              have b14 := below_step (show Below w13.heap.size w13 _ by repeat (first | exact Below.refl _ _ | apply pw_below_drewN)) BX
              have X := Aside0.mk (below_step X.out b14)
              have CL := Aside0.mk (And.intro CL.out.1 (And.intro CL.out.2.1 (Kd.C_below CL.out.2.2 b14)))
              clear BX b14
              go_wp2_with fail
              refine (spec_HasWon.calls k u v _ _ list who won5 five _ (by repeat (first | exact CL.out.2.2 | apply Kd.C_drewN)) CL.out.2.1 HC.out.hS).mono ?_
              rintro e w15 ⟨rfl, BX⟩
              have X := Aside0.mk (below_step (show Below W.heap.size W _ by repeat (first | exact X.out | apply pw_below_drewN)) BX)
              clear BX CL
              cases five <;> cases won5 <;> (go_wp2; go_ret; exact ⟨rfl, by repeat (first | exact below_step BB.out X.out | apply pw_below_drewN)⟩)
end Go.Proofs.Ytenaefpbjblmbaa.Q

namespace Go.Proofs.Ytenaefpbjblmbaa.Q
open Go.Proofs.Ytenaefpbjblmbaa.Given Go.RowKit Go.Proofs.YtenaefpbjblmbaaW.PrintWords Go.Proofs.YtenaefpbjblmbaaW.PrintLast Go.Proofs.YtenaefpbjblmbaaW.PrintMore
set_option linter.unusedVariables false
set_option linter.unusedSimpArgs false

set_option maxHeartbeats 4000000 in
set_option maxRecDepth 100000 in
theorem laws_FnPlacesNeeded.walk (P : laws_FnPlacesNeeded.Pure) (a0 : Option Addr) (len0 cap0 : Nat) (z0 : List Int) (a1 : Option Addr) (len1 cap1 : Nat) (z1 : List Int) (w : World) (w0 : (a0 = none ∧ len0 = 0 ∧ cap0 = 0 ∧ z0 = []) ∨ ∃ x, a0 = some x ∧ len0 ≤ cap0 ∧ cap0 ≤ maxLen ∧ z0.length = cap0 ∧ (∀ i, i < z0.length → w.cell? (x.add i) = some (.int .u8 (z0.getD i 0))) ∧ ∀ n ∈ z0, (Lit.int .u8 n).wf = true) (y0 : len0 * 1 ≤ 140737488351232) (w1 : (a1 = none ∧ len1 = 0 ∧ cap1 = 0 ∧ z1 = []) ∨ ∃ x, a1 = some x ∧ len1 ≤ cap1 ∧ cap1 ≤ maxLen ∧ z1.length = cap1 ∧ (∀ i, i < z1.length → w.cell? (x.add i) = some (.int .u8 (z1.getD i 0))) ∧ ∀ n ∈ z1, (Lit.int .u8 n).wf = true) (y1 : len1 * 1 ≤ 140737488351232) :
    Calls Try.prog 14 #[.slice a0 len0 cap0, .slice a1 len1 cap1] w fun e w' => e = .returned (.bool true) ∧ Below w.heap.size w w' := by
  obtain ⟨l0, rfl, hr0, hm0, hw0, hc0⟩ := ReadsInt.ofRowC w0
  obtain ⟨l1, rfl, hr1, hm1, hw1, hc1⟩ := ReadsInt.ofRowC w1
  have hr0 := Kd.C_of_reads (d := (0 : Int)) (h1 := fun _ => rfl) hr0
  have hr1 := Kd.C_of_reads (d := (0 : Int)) (h1 := fun _ => rfl) hr1
  obtain ⟨k, rows, cols, b, p, need, ok, won, one, hdr, hA, hB, r, c, i, near, two, u, v, list, who, won5, five, hC⟩ := P l0 l1 hw0 hw1
  obtain ⟨bg, hbg⟩ : ∃ b, laws_big.f l0 l1 = some b := by unfold laws_big.f; split <;> exact ⟨_, rfl⟩
  clear w0 w1 hw0 hw1 hm0 hm1 y0 y1 P
  cases bg with
  | true =>
    have HR0 := Aside0.mk hr0
    have HC0 := Aside0.mk hc0
    have HR1 := Aside0.mk hr1
    have HC1 := Aside0.mk hc1
    have HBG := Aside0.mk hbg
    clear hdr hA hB hC hr0 hr1 hc0 hc1 hbg
    go_enter Try.func14, Try.ntmps14
    go_wp2_with fail
    refine (laws_big.calls _ _ l0 _ _ l1 true _ (by repeat (first | exact HR0.out | apply Kd.C_drewN)) HC0.out (by repeat (first | exact HR1.out | apply Kd.C_drewN)) HC1.out HBG.out).mono ?_
    rintro e w1 ⟨rfl, ⟨q1, rfl⟩⟩
    go_wp2
    go_ret
    exact ⟨rfl, by repeat (first | exact Below.refl _ _ | apply pw_below_drewN)⟩
  | false =>
    cases one with
    | false =>
      cases ok with
      | true => exact absurd (hA.oo rfl) (by simp)
      | false => exact places_A k rows cols b p need won r c i near two u v list who won5 five l0 l1 _ _ _ _ w hr0 hc0 hr1 hc1 hbg hdr hA hC
    | true =>
      obtain ⟨other, winner, less, hb⟩ := hB rfl
      cases ok with
      | false =>
        obtain rfl : won = false := by have := hb.t2; simpa using this
        exact places_B k rows cols b p need other winner less r c i near two u v list who won5 five l0 l1 _ _ _ _ w hr0 hc0 hr1 hc1 hbg hdr hA hb hC
      | true =>
        obtain rfl := hb.t3 rfl
        by_cases hn : 0 < need
        · obtain rfl : won = false := by
            have h2 := hb.t2
            rw [beq_eq_false_iff_ne.2 (show need ≠ 0 by omega)] at h2
            simpa using h2
          exact places_D k rows cols b p need winner less r c i near two u v list who won5 five l0 l1 _ _ _ _ w hr0 hc0 hr1 hc1 hbg hdr hA hb hn hC
        · obtain rfl : need = 0 := by have := hb.n0; omega
          obtain rfl : won = true := by simpa using hb.t2
          exact places_C k rows cols b p winner less r c i near two u v list who won5 five l0 l1 _ _ _ _ w hr0 hc0 hr1 hc1 hbg hdr hA hb hC
end Go.Proofs.Ytenaefpbjblmbaa.Q
