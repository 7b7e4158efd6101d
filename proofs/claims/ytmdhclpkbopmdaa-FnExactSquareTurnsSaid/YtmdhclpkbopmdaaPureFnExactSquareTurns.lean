/- The law FnExactSquareTurns answers true for every int n and every list of ints: the program's SquareTurns and the reference's return the same, and the list is left alone. No condition. -/
import Derived.Test.YtmdhclpkbopmdaaQx5
import Derived.Test.YtmdhclpkbopmdaaPo
namespace Go.Proofs.Ytmdhclpkbopmdaa.Pure
open Go.RowKit Go.Proofs.Ytmdhclpkbopmdaa.Q Go.Proofs.Ytmdhclpkbopmdaa.Given Go.Proofs.Ytmdhclpkbopmdaa.Pz Go.Proofs.Ytmdhclpkbopmdaa.Pm Go.Proofs.Ytmdhclpkbopmdaa.Po Go.Proofs.YtmdhclpkbopmdaaW.PrintWords Go.Proofs.YtmdhclpkbopmdaaW.PrintLast
set_option linter.unusedVariables false
set_option linter.unusedSimpArgs false

namespace SquareTurns
def nx (bd : List Int) (i : Nat) : Int := Int.tmod (wrap64 ((i : Int) + 1)) (bd.length : Int)
def rowOk (n : Int) (bd : List Int) (st : List (List Int)) (i : Nat) : Bool :=
  (rd_L1 st i == [rd bd i, rd bd (nx bd i)]) && (decide (0 ≤ nx bd i) && decide (nx bd i < (bd.length : Int))) &&
  (decide (0 ≤ rd bd i) && decide (rd bd i < signs n)) && (decide (0 ≤ rd bd (nx bd i)) && decide (rd bd (nx bd i) < signs n))
def stChk (n : Int) : Bool := match impl_square_steps.f 300 n, spec_opBorder.f 300 n with
  | some st, some bd => decide (bd.length < 100) && (decide (0 < bd.length) && decide (st.length = bd.length)) && (List.range bd.length).all (rowOk n bd st)
  | _, _ => false
set_option maxRecDepth 100000 in
theorem st_chk {n : Int} (h1 : 1 ≤ n) (h2 : n ≤ 4) : stChk n = true := by
  obtain rfl | rfl | rfl | rfl : n = 1 ∨ n = 2 ∨ n = 3 ∨ n = 4 := by omega
  all_goals decide +kernel
theorem st_of {n : Int} (h1 : 1 ≤ n) (h2 : n ≤ 4) : ∃ st bd, (∀ k, 300 ≤ k → impl_square_steps.f k n = some st ∧ spec_opBorder.f k n = some bd) ∧ bd.length < 100 ∧ 0 < bd.length ∧ st.length = bd.length ∧
    ∀ i : Nat, i < bd.length → rd_L1 st i = [rd bd i, rd bd (nx bd i)] ∧ (0 ≤ nx bd i ∧ nx bd i < (bd.length : Int)) ∧ (0 ≤ rd bd i ∧ rd bd i < signs n) ∧ 0 ≤ rd bd (nx bd i) ∧ rd bd (nx bd i) < signs n := by
  have h := st_chk h1 h2
  unfold stChk at h
  cases ha : impl_square_steps.f 300 n with
  | none => rw [ha] at h; simp at h
  | some st =>
    cases hb : spec_opBorder.f 300 n with
    | none => rw [ha, hb] at h; simp at h
    | some bd =>
      rw [ha, hb] at h
      simp only [Bool.and_eq_true, beq_iff_eq, List.all_eq_true, decide_eq_true_eq, List.mem_range, rowOk] at h
      obtain ⟨⟨c1, c2, c3⟩, h⟩ := h
      refine ⟨st, bd, fun k hk => ⟨at_rounds (g := fun k => impl_square_steps.f k n) (fun k => impl_square_steps.mono _ _) hk ha, at_rounds (g := fun k => spec_opBorder.f k n) (fun k => spec_opBorder.mono _ _) hk hb⟩, c1, c2, c3, fun i hi => ?_⟩
      obtain ⟨⟨⟨e, f⟩, g⟩, h⟩ := h i hi
      exact ⟨e, f, g, h⟩

def tu (x : Int) : Int := if x = 1 then 2 else if x = 2 then -1 else if x = -1 then -2 else 1
def D (a b : Int) : Int := if a + b = 0 then 2 else if b = tu a then 1 else if a = tu b then 3 else 0
def Sg (x : Int) : Prop := x = -2 ∨ x = -1 ∨ x = 1 ∨ x = 2
theorem turned_f (x : Int) : impl_turned.f x = some (tu x) := by
  unfold impl_turned.f tu
  repeat (split <;> try rfl)
theorem D_of {a b : Int} (ha : Sg a) (hb : Sg b) : ∃ s t, spec_opPlace.f b = some s ∧ spec_opPlace.f a = some t ∧ Int.tmod (wrap64 (wrap64 (s - t) + 4)) 4 = D a b ∧ wrap64 (a + b) = a + b := by
  rcases ha with rfl | rfl | rfl | rfl <;> rcases hb with rfl | rfl | rfl | rfl
  all_goals exact ⟨_, _, rfl, rfl, by decide +kernel, by decide +kernel⟩

theorem stepS {l bd : List Int} {i j a b s t x : Int} {m : Int} (hj : Int.tmod (wrap64 (i + 1)) (bd.length : Int) = j) (c1 : i < (bd.length : Int)) (c2 : 0 ≤ i) (c3 : ¬ (bd.length : Int) = 0) (r2 : 0 ≤ j) (r3 : j < (bd.length : Int)) (r4 : 0 ≤ rd bd i) (r5 : rd bd i < (l.length : Int)) (r6 : 0 ≤ rd bd j) (r7 : rd bd j < (l.length : Int)) (ha : rd l (rd bd i) = a) (hb : rd l (rd bd j) = b)
    (es : spec_opPlace.f b = some s) (et : spec_opPlace.f a = some t) (eD : Int.tmod (wrap64 (wrap64 (s - t) + 4)) 4 = D a b) (hw : wrap64 (i + 1) = m) (k : Nat) :
    spec_SquareTurns.l0 (k + 1) l bd x bd (bd.length : Int) i = if D a b = 2 then some (0, false) else if D a b = 3 then spec_SquareTurns.l0 k l bd (wrap64 (x + -1)) bd (bd.length : Int) m else spec_SquareTurns.l0 k l bd (wrap64 (x + D a b)) bd (bd.length : Int) m := by
  rw [spec_SquareTurns.l0, if_pos c1, if_pos c2, if_pos c1, if_neg c3, hj, if_pos r2, if_pos r3, if_pos r6, if_pos r7, hb, es, Option.bind_some, if_pos r4, if_pos r5, ha, et, Option.bind_some, eD, hw]
theorem stepI {l : List Int} {st : List (List Int)} {i p q a b x c m : Int} (c1 : i < c) (c2 : 0 ≤ i) (c4 : i < (st.length : Int)) (r1 : rd_L1 st i = [p, q]) (r4 : 0 ≤ p) (r5 : p < (l.length : Int)) (r6 : 0 ≤ q) (r7 : q < (l.length : Int)) (ha : rd l p = a) (hb : rd l q = b) (ew : wrap64 (a + b) = a + b) (hw : wrap64 (i + 1) = m) (k : Nat) :
    impl_SquareTurns.l0 (k + 1) l x st c i = if a + b = 0 then some (0, false) else if b = tu a then impl_SquareTurns.l0 k l (wrap64 (x + 1)) st c m else if a = tu b then impl_SquareTurns.l0 k l (wrap64 (x - 1)) st c m else impl_SquareTurns.l0 k l x st c m := by
  have g0 : rd ([p, q] : List Int) 0 = p := rfl
  have g1 : rd ([p, q] : List Int) 1 = q := rfl
  have g2 : (0 : Int) < (([p, q] : List Int).length : Int) := by simp
  have g3 : (1 : Int) < (([p, q] : List Int).length : Int) := by simp
  rw [impl_SquareTurns.l0, if_pos c1, if_pos c2, if_pos c4, r1, if_pos g2, g0, g1, if_pos r4, if_pos r5, if_pos g3, if_pos r6, if_pos r7, ha, hb, ew, turned_f, turned_f, Option.bind_some, Option.bind_some, hw]
theorem arith {i d x L : Nat} {y : Int} (h : i + (d + 1) = L) (hb : L < 100) (h1 : -(i : Int) ≤ y) (h2 : y ≤ i) :
    wrap64 (y + 1) = y + 1 ∧ wrap64 (y - 1) = y - 1 ∧ wrap64 (y + 0) = y ∧ wrap64 ((i : Int) + 1) = ((i + 1 : Nat) : Int) ∧ (i + 1) + d = L ∧ -((i + 1 : Nat) : Int) ≤ y + 1 ∧ y + 1 ≤ ((i + 1 : Nat) : Int) ∧ -((i + 1 : Nat) : Int) ≤ y - 1 ∧ y - 1 ≤ ((i + 1 : Nat) : Int) ∧ -((i + 1 : Nat) : Int) ≤ y ∧ y ≤ ((i + 1 : Nat) : Int) := by
  refine ⟨wr (by omega) (by omega), wr (by omega) (by omega), ?_, ?_, by omega, by omega, by omega, by omega, by omega, by omega, by omega⟩
  · rw [Int.add_zero]; exact wr (by omega) (by omega)
  · rw [wr (by omega) (by omega)]; omega

theorem loop {n : Int} {l bd : List Int} {st : List (List Int)} (hl : (l.length : Int) = signs n) (hs : ∀ i : Int, 0 ≤ i → i < (l.length : Int) → Sg (rd l i)) (hb : bd.length < 100) (h0 : 0 < bd.length) (hst : st.length = bd.length)
    (hr : ∀ i : Nat, i < bd.length → rd_L1 st i = [rd bd i, rd bd (nx bd i)] ∧ (0 ≤ nx bd i ∧ nx bd i < (bd.length : Int)) ∧ (0 ≤ rd bd i ∧ rd bd i < signs n) ∧ 0 ≤ rd bd (nx bd i) ∧ rd bd (nx bd i) < signs n) (d : Nat) :
    ∀ (i : Nat) (x : Int), i + d = bd.length → -(i : Int) ≤ x → x ≤ i → ∃ v, ∀ k, d < k → spec_SquareTurns.l0 k l bd x bd (bd.length : Int) i = some v ∧ impl_SquareTurns.l0 k l x st (bd.length : Int) i = some v := by
  have c3 : ¬ (bd.length : Int) = 0 := by clear hr hs hl; omega
  induction d with
  | zero =>
    intro i x hi hx1 hx2
    have hn : ¬ (i : Int) < (bd.length : Int) := by clear hr hs hl; omega
    refine ⟨(wrap64 (Int.tdiv x 4), true), fun k hk => ?_⟩
    cases k with
    | zero => exact absurd hk (Nat.not_lt_zero _)
    | succ k => exact ⟨by rw [spec_SquareTurns.l0, if_neg hn], by rw [impl_SquareTurns.l0, if_neg hn]⟩
  | succ d ih =>
    intro i x hi hx1 hx2
    have c1 : (i : Int) < (bd.length : Int) := by clear ih hr hs hl; omega
    have c2 : (0 : Int) ≤ (i : Int) := Int.natCast_nonneg _
    have c4 : (i : Int) < (st.length : Int) := by rw [hst]; exact c1
    have c5 : i < bd.length := by clear ih hr hs hl; omega
    obtain ⟨w1, w2, w0, hw, e0, b1, b2, b3, b4, b5, b6⟩ := arith (x := 0) hi hb hx1 hx2
    obtain ⟨r1, ⟨r2, r3⟩, ⟨r4, r5⟩, r6, r7⟩ := hr i c5
    rw [← hl] at r5 r7
    have A := hs _ r4 r5
    have B := hs _ r6 r7
    obtain ⟨s, t, es, et, eD, ew⟩ := D_of A B
    have S := stepS (x := x) (j := nx bd i) rfl c1 c2 c3 r2 r3 r4 r5 r6 r7 rfl rfl es et eD hw
    have I := stepI (x := x) c1 c2 c4 r1 r4 r5 r6 r7 rfl rfl ew hw
    generalize rd l (rd bd i) = a at S I
    generalize rd l (rd bd (nx bd i)) = b at S I
    clear eD ew es et A B r1 r2 r3 r4 r5 r6 r7 hw hr hs
    by_cases e1 : a + b = 0
    · refine ⟨(0, false), fun k hk => ?_⟩
      have eD' : D a b = 2 := by unfold D; rw [if_pos e1]
      cases k with
      | zero => exact absurd hk (Nat.not_lt_zero _)
      | succ k => exact ⟨by rw [S, if_pos eD'], by rw [I, if_pos e1]⟩
    · by_cases e2 : b = tu a
      · obtain ⟨v, hv⟩ := ih (i + 1) (x + 1) e0 b1 b2
        refine ⟨v, fun k hk => ?_⟩
        have eD' : D a b = 1 := by unfold D; rw [if_neg e1, if_pos e2]
        cases k with
        | zero => exact absurd hk (Nat.not_lt_zero _)
        | succ k =>
          obtain ⟨q1, q2⟩ := hv k (Nat.lt_of_succ_lt_succ hk)
          exact ⟨by rw [S, eD', if_neg (by decide), if_neg (by decide), w1]; exact q1, by rw [I, if_neg e1, if_pos e2, w1]; exact q2⟩
      · by_cases e3 : a = tu b
        · obtain ⟨v, hv⟩ := ih (i + 1) (x - 1) e0 b3 b4
          refine ⟨v, fun k hk => ?_⟩
          have eD' : D a b = 3 := by unfold D; rw [if_neg e1, if_neg e2, if_pos e3]
          have hz : x + -1 = x - 1 := Int.sub_eq_add_neg.symm
          cases k with
          | zero => exact absurd hk (Nat.not_lt_zero _)
          | succ k =>
            obtain ⟨q1, q2⟩ := hv k (Nat.lt_of_succ_lt_succ hk)
            exact ⟨by rw [S, eD', if_neg (by decide), if_pos rfl, hz, w2]; exact q1, by rw [I, if_neg e1, if_neg e2, if_pos e3, w2]; exact q2⟩
        · obtain ⟨v, hv⟩ := ih (i + 1) x e0 b5 b6
          refine ⟨v, fun k hk => ?_⟩
          have eD' : D a b = 0 := by unfold D; rw [if_neg e1, if_neg e2, if_neg e3]
          cases k with
          | zero => exact absurd hk (Nat.not_lt_zero _)
          | succ k =>
            obtain ⟨q1, q2⟩ := hv k (Nat.lt_of_succ_lt_succ hk)
            exact ⟨by rw [S, eD', if_neg (by decide), if_neg (by decide), w0]; exact q1, by rw [I, if_neg e1, if_neg e2, if_neg e3]; exact q2⟩
end SquareTurns

theorem FnExactSquareTurns : laws_FnExactSquareTurns.Pure := by
  intro a l _ _ _ _
  by_cases hb : (l.length : Int) > 1048576
  · exact ⟨1, by unfold laws_FnExactSquareTurns.f; rw [if_pos hb]⟩
  · obtain ⟨K, hK⟩ : ∃ K, l.length + 397 ≤ K := ⟨_, Nat.le_refl _⟩
    refine ⟨K + 3, ?_⟩
    have hm : l.length ≤ 1099511627776 := by omega
    have ht : ∀ k, l.length < k → laws_toIntS.f k l = some l := fun k hk => toIntS_f l hm k hk
    have he : ∀ k, l.length < k → laws_eqIntS.f k l l = some true := fun k hk => by rw [eqIntS_f l l hm k hk]; simp
    obtain ⟨b, h1, h2, h3⟩ := opLabels_f a l hm (K + 3) (by omega)
    have hg : ∃ g, spec_SquareTurns.f (K + 3) a l = some g ∧ impl_SquareTurns.f (K + 3) a l = some g := by
      cases b with
      | false =>
        exact ⟨(0, false), by unfold spec_SquareTurns.f; rw [h1]; rfl, by unfold impl_SquareTurns.f; rw [h2]; rfl⟩
      | true =>
        obtain ⟨⟨a1, a4⟩, hl, hv⟩ := h3 rfl
        obtain ⟨st, bd, b1, b2, b3, b4, b5⟩ := SquareTurns.st_of a1 a4
        have hs : ∀ i : Int, 0 ≤ i → i < (l.length : Int) → SquareTurns.Sg (rd l i) := by
          intro i i0 i1
          have hil : i.toNat < l.length := by omega
          have e : rd l i = l[i.toNat] := by unfold rd; rw [List.getD_eq_getElem?_getD, List.getElem?_eq_getElem hil]; rfl
          rw [e]
          exact hv _ (List.getElem_mem hil)
        obtain ⟨v, hq⟩ := SquareTurns.loop (n := a) (st := st) hl hs b2 b3 b4 b5 bd.length 0 0 (by omega) (by omega) (by omega)
        obtain ⟨q1, q2⟩ := hq (K + 3) (by omega)
        obtain ⟨z1, z2⟩ := b1 (K + 3) (by omega)
        refine ⟨v, ?_, ?_⟩
        · unfold spec_SquareTurns.f
          rw [h1, Option.bind_some, if_pos rfl, z2, Option.bind_some]
          exact q1
        · unfold impl_SquareTurns.f
          rw [h2, Option.bind_some, if_pos rfl, z1, Option.bind_some, b4]
          exact q2
    obtain ⟨g, g1, g2⟩ := hg
    unfold laws_FnExactSquareTurns.f
    rw [if_neg hb, ht _ (by omega)]
    simp only [Option.bind_some, g1, g2]
    simp [laws_FnExactSquareTurns.j0, ht (K + 2) (by omega), he (K + 2) (by omega)]
end Go.Proofs.Ytmdhclpkbopmdaa.Pure
