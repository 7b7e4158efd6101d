/- Plain facts on the turns of labels round a square's border: what SquareTurns tells, its doors, negated and turned labels, opposite ones. -/
import Derived.Test.YtmdhclpkbopmdaaPo
import Derived.Test.YtmdhclpkbopmdaaGk
import Derived.Test.YtmdhclpkbopmdaaGy
import Derived.Test.YtmdhclpkbopmdaaQx5
import Derived.Test.YtmdhclpkbopmdaaQx3
import Derived.Test.YtmdhclpkbopmdaaQx7
import Derived.Test.YtmdhclpkbopmdaaQx4
namespace Go.Proofs.Ytmdhclpkbopmdaa.Pi
open Go.RowKit Go.Proofs.Ytmdhclpkbopmdaa.Q Go.Proofs.Ytmdhclpkbopmdaa.Given Go.Proofs.Ytmdhclpkbopmdaa.Pz Go.Proofs.Ytmdhclpkbopmdaa.Pm Go.Proofs.Ytmdhclpkbopmdaa.Po Go.Proofs.YtmdhclpkbopmdaaW.PrintWords Go.Proofs.YtmdhclpkbopmdaaW.PrintLast
set_option linter.unusedVariables false
set_option linter.unusedSimpArgs false

def nx (bd : List Int) (i : Nat) : Int := Int.tmod (wrap64 ((i : Int) + 1)) (bd.length : Int)
def rowOk (n : Int) (bd : List Int) (st : List (List Int)) (i : Nat) : Bool :=
  (rd_L3 st i == [rd bd i, rd bd (nx bd i)]) && (decide (0 ≤ nx bd i) && decide (nx bd i < (bd.length : Int))) &&
  (decide (0 ≤ rd bd i) && decide (rd bd i < signs n)) && (decide (0 ≤ rd bd (nx bd i)) && decide (rd bd (nx bd i) < signs n))
def stChk (n : Int) : Bool := match impl_square_steps.f 300 n, spec_opBorder.f 300 n with
  | some st, some bd => decide (bd.length < 100) && (decide (0 < bd.length) && decide (st.length = bd.length)) && (List.range bd.length).all (rowOk n bd st)
  | _, _ => false
set_option maxRecDepth 100000 in
theorem st_chk {n : Int} (h1 : 1 ≤ n) (h2 : n ≤ 4) : stChk n = true := by
  obtain rfl | rfl | rfl | rfl : n = 1 ∨ n = 2 ∨ n = 3 ∨ n = 4 := by omega
  all_goals decide +kernel
theorem st_of {n : Int} (h1 : 1 ≤ n) (h2 : n ≤ 4) : ∃ st bd, (∀ k, 300 ≤ k → impl_square_steps.f k n = some st ∧ spec_opBorder.f k n = some bd) ∧ bd.length < 100 ∧ 0 < bd.length ∧ st.length = bd.length ∧
    ∀ i : Nat, i < bd.length → rd_L3 st i = [rd bd i, rd bd (nx bd i)] ∧ (0 ≤ nx bd i ∧ nx bd i < (bd.length : Int)) ∧ (0 ≤ rd bd i ∧ rd bd i < signs n) ∧ 0 ≤ rd bd (nx bd i) ∧ rd bd (nx bd i) < signs n := by
  have h := st_chk h1 h2
  unfold stChk at h
  cases ha : impl_square_steps.f 300 n with
  | none => rw [ha] at h; simp at h
  | some st =>
    cases hb : spec_opBorder.f 300 n with
    | none => rw [ha, hb] at h; simp at h
    | some bd =>
      rw [ha, hb] at h
      simp only [Bool.and_eq_true, beq_iff_eq, List.all_eq_true, decide_eq_true_eq, List.mem_range, rowOk] at h
      obtain ⟨⟨c1, c2, c3⟩, h⟩ := h
      refine ⟨st, bd, fun k hk => ⟨at_rounds (g := fun k => impl_square_steps.f k n) (fun k => impl_square_steps.mono _ _) hk ha, at_rounds (g := fun k => spec_opBorder.f k n) (fun k => spec_opBorder.mono _ _) hk hb⟩, c1, c2, c3, fun i hi => ?_⟩
      obtain ⟨⟨⟨e, f⟩, g⟩, h⟩ := h i hi
      exact ⟨e, f, g, h⟩

def tu (x : Int) : Int := if x = 1 then 2 else if x = 2 then -1 else if x = -1 then -2 else 1
def D (a b : Int) : Int := if a + b = 0 then 2 else if b = tu a then 1 else if a = tu b then 3 else 0
def Sg (x : Int) : Prop := x = -2 ∨ x = -1 ∨ x = 1 ∨ x = 2
theorem turned_f (x : Int) : impl_turned.f x = some (tu x) := by
  unfold impl_turned.f tu
  repeat (split <;> try rfl)
theorem D_of {a b : Int} (ha : Sg a) (hb : Sg b) : ∃ s t, spec_opPlace.f b = some s ∧ spec_opPlace.f a = some t ∧ Int.tmod (wrap64 (wrap64 (s - t) + 4)) 4 = D a b ∧ wrap64 (a + b) = a + b := by
  rcases ha with rfl | rfl | rfl | rfl <;> rcases hb with rfl | rfl | rfl | rfl
  all_goals exact ⟨_, _, rfl, rfl, by decide +kernel, by decide +kernel⟩

theorem stepS {l bd : List Int} {i j a b s t x : Int} {m : Int} (hj : Int.tmod (wrap64 (i + 1)) (bd.length : Int) = j) (c1 : i < (bd.length : Int)) (c2 : 0 ≤ i) (c3 : ¬ (bd.length : Int) = 0) (r2 : 0 ≤ j) (r3 : j < (bd.length : Int)) (r4 : 0 ≤ rd bd i) (r5 : rd bd i < (l.length : Int)) (r6 : 0 ≤ rd bd j) (r7 : rd bd j < (l.length : Int)) (ha : rd l (rd bd i) = a) (hb : rd l (rd bd j) = b)
    (es : spec_opPlace.f b = some s) (et : spec_opPlace.f a = some t) (eD : Int.tmod (wrap64 (wrap64 (s - t) + 4)) 4 = D a b) (hw : wrap64 (i + 1) = m) (k : Nat) :
    spec_SquareTurns.l0 (k + 1) l bd x bd (bd.length : Int) i = if D a b = 2 then some (0, false) else if D a b = 3 then spec_SquareTurns.l0 k l bd (wrap64 (x + -1)) bd (bd.length : Int) m else spec_SquareTurns.l0 k l bd (wrap64 (x + D a b)) bd (bd.length : Int) m := by
  rw [spec_SquareTurns.l0, if_pos c1, if_pos c2, if_pos c1, if_neg c3, hj, if_pos r2, if_pos r3, if_pos r6, if_pos r7, hb, es, Option.bind_some, if_pos r4, if_pos r5, ha, et, Option.bind_some, eD, hw]
theorem stepI {l : List Int} {st : List (List Int)} {i p q a b x c m : Int} (c1 : i < c) (c2 : 0 ≤ i) (c4 : i < (st.length : Int)) (r1 : rd_L3 st i = [p, q]) (r4 : 0 ≤ p) (r5 : p < (l.length : Int)) (r6 : 0 ≤ q) (r7 : q < (l.length : Int)) (ha : rd l p = a) (hb : rd l q = b) (ew : wrap64 (a + b) = a + b) (hw : wrap64 (i + 1) = m) (k : Nat) :
    impl_SquareTurns.l0 (k + 1) l x st c i = if a + b = 0 then some (0, false) else if b = tu a then impl_SquareTurns.l0 k l (wrap64 (x + 1)) st c m else if a = tu b then impl_SquareTurns.l0 k l (wrap64 (x - 1)) st c m else impl_SquareTurns.l0 k l x st c m := by
  have g0 : rd ([p, q] : List Int) 0 = p := rfl
  have g1 : rd ([p, q] : List Int) 1 = q := rfl
  have g2 : (0 : Int) < (([p, q] : List Int).length : Int) := by simp
  have g3 : (1 : Int) < (([p, q] : List Int).length : Int) := by simp
  rw [impl_SquareTurns.l0, if_pos c1, if_pos c2, if_pos c4, r1, if_pos g2, g0, g1, if_pos r4, if_pos r5, if_pos g3, if_pos r6, if_pos r7, ha, hb, ew, turned_f, turned_f, Option.bind_some, Option.bind_some, hw]
theorem arith {i d x L : Nat} {y : Int} (h : i + (d + 1) = L) (hb : L < 100) (h1 : -(i : Int) ≤ y) (h2 : y ≤ i) :
    wrap64 (y + 1) = y + 1 ∧ wrap64 (y - 1) = y - 1 ∧ wrap64 (y + 0) = y ∧ wrap64 ((i : Int) + 1) = ((i + 1 : Nat) : Int) ∧ (i + 1) + d = L ∧ -((i + 1 : Nat) : Int) ≤ y + 1 ∧ y + 1 ≤ ((i + 1 : Nat) : Int) ∧ -((i + 1 : Nat) : Int) ≤ y - 1 ∧ y - 1 ≤ ((i + 1 : Nat) : Int) ∧ -((i + 1 : Nat) : Int) ≤ y ∧ y ≤ ((i + 1 : Nat) : Int) := by
  refine ⟨wr (by omega) (by omega), wr (by omega) (by omega), ?_, ?_, by omega, by omega, by omega, by omega, by omega, by omega, by omega⟩
  · rw [Int.add_zero]; exact wr (by omega) (by omega)
  · rw [wr (by omega) (by omega)]; omega

theorem loop {n : Int} {l bd : List Int} {st : List (List Int)} (hl : (l.length : Int) = signs n) (hs : ∀ i : Int, 0 ≤ i → i < (l.length : Int) → Sg (rd l i)) (hb : bd.length < 100) (h0 : 0 < bd.length) (hst : st.length = bd.length)
    (hr : ∀ i : Nat, i < bd.length → rd_L3 st i = [rd bd i, rd bd (nx bd i)] ∧ (0 ≤ nx bd i ∧ nx bd i < (bd.length : Int)) ∧ (0 ≤ rd bd i ∧ rd bd i < signs n) ∧ 0 ≤ rd bd (nx bd i) ∧ rd bd (nx bd i) < signs n) (d : Nat) :
    ∀ (i : Nat) (x : Int), i + d = bd.length → -(i : Int) ≤ x → x ≤ i → ∃ v, ∀ k, d < k → spec_SquareTurns.l0 k l bd x bd (bd.length : Int) i = some v ∧ impl_SquareTurns.l0 k l x st (bd.length : Int) i = some v := by
  have c3 : ¬ (bd.length : Int) = 0 := by clear hr hs hl; omega
  induction d with
  | zero =>
    intro i x hi hx1 hx2
    have hn : ¬ (i : Int) < (bd.length : Int) := by clear hr hs hl; omega
    refine ⟨(wrap64 (Int.tdiv x 4), true), fun k hk => ?_⟩
    cases k with
    | zero => exact absurd hk (Nat.not_lt_zero _)
    | succ k => exact ⟨by rw [spec_SquareTurns.l0, if_neg hn], by rw [impl_SquareTurns.l0, if_neg hn]⟩
  | succ d ih =>
    intro i x hi hx1 hx2
    have c1 : (i : Int) < (bd.length : Int) := by clear ih hr hs hl; omega
    have c2 : (0 : Int) ≤ (i : Int) := Int.natCast_nonneg _
    have c4 : (i : Int) < (st.length : Int) := by rw [hst]; exact c1
    have c5 : i < bd.length := by clear ih hr hs hl; omega
    obtain ⟨w1, w2, w0, hw, e0, b1, b2, b3, b4, b5, b6⟩ := arith (x := 0) hi hb hx1 hx2
    obtain ⟨r1, ⟨r2, r3⟩, ⟨r4, r5⟩, r6, r7⟩ := hr i c5
    rw [← hl] at r5 r7
    have A := hs _ r4 r5
    have B := hs _ r6 r7
    obtain ⟨s, t, es, et, eD, ew⟩ := D_of A B
    have S := stepS (x := x) (j := nx bd i) rfl c1 c2 c3 r2 r3 r4 r5 r6 r7 rfl rfl es et eD hw
    have I := stepI (x := x) c1 c2 c4 r1 r4 r5 r6 r7 rfl rfl ew hw
    generalize rd l (rd bd i) = a at S I
    generalize rd l (rd bd (nx bd i)) = b at S I
    clear eD ew es et A B r1 r2 r3 r4 r5 r6 r7 hw hr hs
    by_cases e1 : a + b = 0
    · refine ⟨(0, false), fun k hk => ?_⟩
      have eD' : D a b = 2 := by unfold D; rw [if_pos e1]
      cases k with
      | zero => exact absurd hk (Nat.not_lt_zero _)
      | succ k => exact ⟨by rw [S, if_pos eD'], by rw [I, if_pos e1]⟩
    · by_cases e2 : b = tu a
      · obtain ⟨v, hv⟩ := ih (i + 1) (x + 1) e0 b1 b2
        refine ⟨v, fun k hk => ?_⟩
        have eD' : D a b = 1 := by unfold D; rw [if_neg e1, if_pos e2]
        cases k with
        | zero => exact absurd hk (Nat.not_lt_zero _)
        | succ k =>
          obtain ⟨q1, q2⟩ := hv k (Nat.lt_of_succ_lt_succ hk)
          exact ⟨by rw [S, eD', if_neg (by decide), if_neg (by decide), w1]; exact q1, by rw [I, if_neg e1, if_pos e2, w1]; exact q2⟩
      · by_cases e3 : a = tu b
        · obtain ⟨v, hv⟩ := ih (i + 1) (x - 1) e0 b3 b4
          refine ⟨v, fun k hk => ?_⟩
          have eD' : D a b = 3 := by unfold D; rw [if_neg e1, if_neg e2, if_pos e3]
          have hz : x + -1 = x - 1 := Int.sub_eq_add_neg.symm
          cases k with
          | zero => exact absurd hk (Nat.not_lt_zero _)
          | succ k =>
            obtain ⟨q1, q2⟩ := hv k (Nat.lt_of_succ_lt_succ hk)
            exact ⟨by rw [S, eD', if_neg (by decide), if_pos rfl, hz, w2]; exact q1, by rw [I, if_neg e1, if_neg e2, if_pos e3, w2]; exact q2⟩
        · obtain ⟨v, hv⟩ := ih (i + 1) x e0 b5 b6
          refine ⟨v, fun k hk => ?_⟩
          have eD' : D a b = 0 := by unfold D; rw [if_neg e1, if_neg e2, if_neg e3]
          cases k with
          | zero => exact absurd hk (Nat.not_lt_zero _)
          | succ k =>
            obtain ⟨q1, q2⟩ := hv k (Nat.lt_of_succ_lt_succ hk)
            exact ⟨by rw [S, eD', if_neg (by decide), if_neg (by decide), w0]; exact q1, by rw [I, if_neg e1, if_neg e2, if_neg e3]; exact q2⟩
def bdChk (n : Int) : Bool := match impl_square_border.f 300 n, spec_opBorder.f 300 n with
  | some a, some b => a == b && a.all fun i => (decide (0 ≤ i) && decide (i < signs n)) && (decide (0 ≤ wrap64 ((signs n - 1) - i)) && decide (wrap64 ((signs n - 1) - i) < signs n))
  | _, _ => false
set_option maxRecDepth 100000 in
theorem bd_chk {n : Int} (h1 : 1 ≤ n) (h2 : n ≤ 4) : bdChk n = true := by
  obtain rfl | rfl | rfl | rfl : n = 1 ∨ n = 2 ∨ n = 3 ∨ n = 4 := by omega
  all_goals decide +kernel
theorem bd_of {n : Int} (h1 : 1 ≤ n) (h2 : n ≤ 4) : ∃ bd, (∀ k, 300 ≤ k → impl_square_border.f k n = some bd ∧ spec_opBorder.f k n = some bd) ∧ ∀ i ∈ bd, (0 ≤ i ∧ i < signs n) ∧ 0 ≤ wrap64 ((signs n - 1) - i) ∧ wrap64 ((signs n - 1) - i) < signs n := by
  have h := bd_chk h1 h2
  unfold bdChk at h
  cases ha : impl_square_border.f 300 n with
  | none => rw [ha] at h; simp at h
  | some a =>
    cases hb : spec_opBorder.f 300 n with
    | none => rw [ha, hb] at h; simp at h
    | some b =>
      rw [ha, hb] at h
      simp only [Bool.and_eq_true, beq_iff_eq, List.all_eq_true, decide_eq_true_eq] at h
      obtain ⟨rfl, h⟩ := h
      exact ⟨a, fun k hk => ⟨at_rounds (g := fun k => impl_square_border.f k n) (fun k => impl_square_border.mono _ _) hk ha, at_rounds (g := fun k => spec_opBorder.f k n) (fun k => spec_opBorder.mono _ _) hk hb⟩, h⟩
theorem signs_le {n : Int} (h1 : 1 ≤ n) (h2 : n ≤ 4) : 9 ≤ signs n ∧ signs n ≤ 81 := by
  obtain rfl | rfl | rfl | rfl : n = 1 ∨ n = 2 ∨ n = 3 ∨ n = 4 := by omega
  all_goals decide +kernel

/-! ### sums -/
def sumR (f : Nat → Int) : Nat → Nat → Int
  | _, 0 => 0
  | i, d + 1 => f i + sumR f (i + 1) d
def anyR (o : Nat → Bool) : Nat → Nat → Bool
  | _, 0 => false
  | i, d + 1 => o i || anyR o (i + 1) d
theorem sumR_congr {f g : Nat → Int} (d : Nat) : ∀ i, (∀ t, i ≤ t → t < i + d → f t = g t) → sumR f i d = sumR g i d := by
  induction d with
  | zero => intro i _; rfl
  | succ d ih => intro i h; rw [sumR, sumR, h i (Nat.le_refl _) (by omega), ih (i + 1) (fun t h1 h2 => h t (by omega) (by omega))]
theorem anyR_congr {f g : Nat → Bool} (d : Nat) : ∀ i, (∀ t, i ≤ t → t < i + d → f t = g t) → anyR f i d = anyR g i d := by
  induction d with
  | zero => intro i _; rfl
  | succ d ih => intro i h; rw [anyR, anyR, h i (Nat.le_refl _) (by omega), ih (i + 1) (fun t h1 h2 => h t (by omega) (by omega))]
theorem anyR_false {o : Nat → Bool} (d : Nat) : ∀ i, anyR o i d = false → ∀ t, i ≤ t → t < i + d → o t = false := by
  induction d with
  | zero => intro i _ t h1 h2; omega
  | succ d ih =>
    intro i h t h1 h2
    rw [anyR, Bool.or_eq_false_iff] at h
    by_cases e : t = i
    · rw [e]; exact h.1
    · exact ih (i + 1) h.2 t (by omega) (by omega)
theorem sumR_split (f : Nat → Int) (a b : Nat) : ∀ i, sumR f i (a + b) = sumR f i a + sumR f (i + a) b := by
  induction a with
  | zero => intro i; simp [sumR]
  | succ a ih => intro i; rw [show a + 1 + b = (a + b) + 1 by omega, sumR, sumR, ih (i + 1), show i + (a + 1) = i + 1 + a by omega]; omega
theorem sumR_shift (f : Nat → Int) (c d : Nat) : ∀ i, sumR f (i + c) d = sumR (fun t => f (t + c)) i d := by
  induction d with
  | zero => intro i; rfl
  | succ d ih => intro i; rw [sumR, sumR, show i + c + 1 = (i + 1) + c by omega, ih (i + 1)]
theorem sumR_tele (h : Nat → Int) (d : Nat) : ∀ i, sumR (fun t => h (t + 1) - h t) i d = h (i + d) - h i := by
  induction d with
  | zero => intro i; simp [sumR]
  | succ d ih => intro i; rw [sumR, ih (i + 1), show i + 1 + d = i + (d + 1) by omega]; omega
theorem sumR_add (f g : Nat → Int) (d : Nat) : ∀ i, sumR (fun t => f t + g t) i d = sumR f i d + sumR g i d := by
  induction d with
  | zero => intro i; rfl
  | succ d ih => intro i; rw [sumR, sumR, sumR, ih (i + 1)]; omega
theorem sumR_mul (f : Nat → Int) (d : Nat) : ∀ i, sumR (fun t => 4 * f t) i d = 4 * sumR f i d := by
  induction d with
  | zero => intro i; rfl
  | succ d ih => intro i; rw [sumR, sumR, ih (i + 1)]; omega
theorem sumR_le (f : Nat → Int) (hf : ∀ t, -1 ≤ f t ∧ f t ≤ 1) (d : Nat) : ∀ i, -(d : Int) ≤ sumR f i d ∧ sumR f i d ≤ d := by
  induction d with
  | zero => intro i; simp [sumR]
  | succ d ih => intro i; have := ih (i + 1); have := hf i; rw [sumR]; omega

/-! ### one step -/
def sg (a b : Int) : Int := if b = tu a then 1 else if a = tu b then -1 else 0
theorem sg_le (a b : Int) : -1 ≤ sg a b ∧ sg a b ≤ 1 := by
  unfold sg
  split
  · omega
  · split <;> omega
/-- The place in the order 2, -1, -2, 1. -/
def rp (x : Int) : Int := if x = 2 then 0 else if x = -1 then 1 else if x = -2 then 2 else 3
/-- .. in the order 1, 2, -1, -2. -/
def pp (x : Int) : Int := if x = 1 then 0 else if x = 2 then 1 else if x = -1 then 2 else 3
def gdr (a b : Int) : Int := if sdoor a b then b - a else 0
theorem sg_rp {a b : Int} (ha : Sg a) (hb : Sg b) (h : ¬ a + b = 0) : sg a b = (rp b - rp a) + 4 * gdr a b := by
  rcases ha with rfl | rfl | rfl | rfl <;> rcases hb with rfl | rfl | rfl | rfl
  all_goals first | (exfalso; revert h; decide +kernel) | decide +kernel
def cp (a b : Int) : Int := (sg a b - (pp b - pp a)) / 4
theorem sg_pp {a b : Int} (ha : Sg a) (hb : Sg b) (h : ¬ a + b = 0) : sg a b = (pp b - pp a) + 4 * cp a b := by
  rcases ha with rfl | rfl | rfl | rfl <;> rcases hb with rfl | rfl | rfl | rfl
  all_goals first | (exfalso; revert h; decide +kernel) | decide +kernel
theorem pp_neg {a : Int} (ha : Sg a) : pp (-a) - pp a = 2 ∨ pp (-a) - pp a = -2 := by
  rcases ha with rfl | rfl | rfl | rfl
  all_goals decide +kernel
theorem sg_neg {a b : Int} (ha : Sg a) (hb : Sg b) : sg (-a) (-b) = sg a b := by
  rcases ha with rfl | rfl | rfl | rfl <;> rcases hb with rfl | rfl | rfl | rfl
  all_goals decide +kernel
theorem sg_turn {a b : Int} (ha : Sg a) (hb : Sg b) : sg (turn a) (turn b) = sg a b ∧ (turn a + turn b = 0 ↔ a + b = 0) := by
  rcases ha with rfl | rfl | rfl | rfl <;> rcases hb with rfl | rfl | rfl | rfl
  all_goals decide +kernel
theorem gdr_le {a b : Int} (ha : Sg a) (hb : Sg b) : -1 ≤ gdr a b ∧ gdr a b ≤ 1 := by
  rcases ha with rfl | rfl | rfl | rfl <;> rcases hb with rfl | rfl | rfl | rfl
  all_goals decide +kernel
theorem Sg.neg {a : Int} (ha : Sg a) : Sg (-a) ∧ wrap64 (-a) = -a := by
  rcases ha with rfl | rfl | rfl | rfl
  all_goals (unfold Sg; decide +kernel)
theorem Sg.turn {a : Int} (ha : Sg a) : Sg (Given.turn a) ∧ Given.turn (Given.turn a) = wrap64 (-a) ∧ wrap64 (-(wrap64 (-a))) = a := by
  rcases ha with rfl | rfl | rfl | rfl
  all_goals (unfold Sg; decide +kernel)

/-! ### the border -/
def nxt (L t : Nat) : Nat := if t + 1 < L then t + 1 else 0
def geoChk (n : Int) : Bool := match impl_square_steps.f 300 n, spec_opBorder.f 300 n, impl_square_border.f 300 n with
  | some st, some bd, some b2 => (bd == b2) && decide ((bd.length : Int) = 8 * n) && (List.range bd.length).all (fun t => decide (nx bd t = (nxt bd.length t : Int))) &&
    (List.range (bd.length / 2)).all fun t => decide (rd bd ((t + bd.length / 2 : Nat) : Int) = signs n - 1 - rd bd t) && decide (rd bd (nx bd (t + bd.length / 2)) = signs n - 1 - rd bd (nx bd t))
  | _, _, _ => false
set_option maxRecDepth 100000 in
theorem geo_chk {n : Int} (h1 : 1 ≤ n) (h2 : n ≤ 4) : geoChk n = true := by
  obtain rfl | rfl | rfl | rfl : n = 1 ∨ n = 2 ∨ n = 3 ∨ n = 4 := by omega
  all_goals decide +kernel
/-- All that is needed of a square's border. -/
structure Brd (n : Int) (st : List (List Int)) (bd : List Int) (M : Nat) : Prop where
  steps : ∀ k, 300 ≤ k → impl_square_steps.f k n = some st
  sbd : ∀ k, 300 ≤ k → spec_opBorder.f k n = some bd
  ibd : ∀ k, 300 ≤ k → impl_square_border.f k n = some bd
  len : bd.length = M + M
  m1 : 1 ≤ M
  m40 : M ≤ 40
  slen : st.length = bd.length
  row : ∀ i : Nat, i < bd.length → rd_L3 st i = [rd bd i, rd bd (nx bd i)] ∧ (0 ≤ nx bd i ∧ nx bd i < (bd.length : Int)) ∧ (0 ≤ rd bd i ∧ rd bd i < signs n) ∧ 0 ≤ rd bd (nx bd i) ∧ rd bd (nx bd i) < signs n
  nx_ : ∀ i : Nat, i < bd.length → nx bd i = (nxt bd.length i : Int)
  anti : ∀ t : Nat, t < M → rd bd ((t + M : Nat) : Int) = signs n - 1 - rd bd t ∧ rd bd (nx bd (t + M)) = signs n - 1 - rd bd (nx bd t)
  sg9 : 9 ≤ signs n ∧ signs n ≤ 81
theorem brd_of {n : Int} (h1 : 1 ≤ n) (h2 : n ≤ 4) : ∃ st bd M, Brd n st bd M := by
  obtain ⟨st, bd, b1, b2, b3, b4, b5⟩ := st_of h1 h2
  have h := geo_chk h1 h2
  unfold geoChk at h
  rw [(b1 300 (Nat.le_refl _)).1, (b1 300 (Nat.le_refl _)).2] at h
  cases hb : impl_square_border.f 300 n with
  | none => rw [hb] at h; simp at h
  | some c =>
    rw [hb] at h
    simp only [Bool.and_eq_true, beq_iff_eq, List.all_eq_true, decide_eq_true_eq, List.mem_range] at h
    obtain ⟨⟨⟨rfl, hl⟩, hn⟩, ha⟩ := h
    have hM : bd.length = bd.length / 2 + bd.length / 2 := by clear b5 ha hn; omega
    refine ⟨st, bd, bd.length / 2, ⟨fun k hk => (b1 k hk).1, fun k hk => (b1 k hk).2, fun k hk => at_rounds (g := fun k => impl_square_border.f k n) (fun k => impl_square_border.mono _ _) hk hb, hM, by clear b5 ha hn; omega, by clear b5 ha hn; omega, b4, b5, hn, ha, signs_le h1 h2⟩⟩

section
variable {n : Int} {l bd : List Int} {st : List (List Int)} {M : Nat}
def A (l bd : List Int) (t : Nat) : Int := rd l (rd bd t)
def Q (l bd : List Int) (t : Nat) : Int := rd l (rd bd (nx bd t))
def SS (l bd : List Int) (t : Nat) : Int := sg (A l bd t) (Q l bd t)
def OO (l bd : List Int) (t : Nat) : Bool := decide (A l bd t + Q l bd t = 0)
def GG (l bd : List Int) (t : Nat) : Int := gdr (A l bd t) (Q l bd t)
/-- What SquareTurns tells. -/
def TV (l bd : List Int) : Int × Bool := if anyR (OO l bd) 0 bd.length then (0, false) else (wrap64 (Int.tdiv (sumR (SS l bd) 0 bd.length) 4), true)
/-- Labels. -/
structure Lbl (n : Int) (l : List Int) : Prop where
  n1 : 1 ≤ n
  n4 : n ≤ 4
  len : (l.length : Int) = signs n
  sg : ∀ x ∈ l, Sg x
theorem Lbl.at_ (h : Lbl n l) (i : Int) (h0 : 0 ≤ i) (h1 : i < signs n) : Sg (rd l i) := by
  have hil : i.toNat < l.length := by have := h.len; omega
  have e : rd l i = l[i.toNat] := by unfold rd; rw [List.getD_eq_getElem?_getD, List.getElem?_eq_getElem hil]; rfl
  rw [e]
  exact h.sg _ (List.getElem_mem hil)
theorem Lbl.a (h : Lbl n l) (B : Brd n st bd M) (t : Nat) (ht : t < bd.length) : Sg (A l bd t) ∧ Sg (Q l bd t) := by
  obtain ⟨_, _, h3, h4⟩ := B.row t ht
  exact ⟨h.at_ _ h3.1 h3.2, h.at_ _ h4.1 h4.2⟩
theorem Lbl.areSigns (h : Lbl n l) : impl_areSigns.f n l = some true := by
  unfold impl_areSigns.f impl_isReach.f
  rw [in_f]
  have e1 : inRange n 1 4 = true := by unfold inRange; simp [h.n1, h.n4]
  have e2 : ((l.length : Int) == signs n) = true := beq_iff_eq.mpr h.len
  have e3 : (l.any fun x => !(inRange x (-2) 2) || x == 0) = false := by
    rw [List.any_eq_false]
    intro x hx
    rcases h.sg x hx with rfl | rfl | rfl | rfl
    all_goals decide +kernel
  rw [Option.bind_some, e1, Option.bind_some, e2, e3]
  rfl

theorem turns_l0 (h : Lbl n l) (B : Brd n st bd M) (d : Nat) : ∀ (i : Nat) (x : Int), i + d = bd.length → -(i : Int) ≤ x → x ≤ i → ∀ k, d < k →
    impl_SquareTurns.l0 k l x st (bd.length : Int) i = some (if anyR (OO l bd) i d then (0, false) else (wrap64 (Int.tdiv (x + sumR (SS l bd) i d) 4), true)) := by
  have hb : bd.length < 100 := by have := B.len; have := B.m40; omega
  induction d with
  | zero =>
    intro i x hi _ _ k hk
    obtain ⟨k, rfl⟩ : ∃ m, k = m + 1 := ⟨k - 1, by omega⟩
    rw [impl_SquareTurns.l0, if_neg (by omega)]
    simp [anyR, sumR]
  | succ d ih =>
    intro i x hi hx1 hx2 k hk
    obtain ⟨k, rfl⟩ : ∃ m, k = m + 1 := ⟨k - 1, by omega⟩
    have hil : i < bd.length := by omega
    obtain ⟨w1, w2, w0, hw, e0, b1, b2, b3, b4, b5, b6⟩ := arith (x := 0) hi hb hx1 hx2
    obtain ⟨r1, ⟨r2, r3⟩, ⟨r4, r5⟩, r6, r7⟩ := B.row i hil
    rw [← h.len] at r5 r7
    obtain ⟨SA, SQ⟩ := h.a B i hil
    obtain ⟨_, _, _, _, _, ew⟩ := D_of SA SQ
    have c4 : (i : Int) < (st.length : Int) := by rw [B.slen]; omega
    have I := stepI (x := x) (c := (bd.length : Int)) (by omega) (by omega) c4 r1 r4 r5 r6 r7 rfl rfl ew hw k
    have hO : OO l bd i = decide (A l bd i + Q l bd i = 0) := rfl
    have hS : SS l bd i = sg (A l bd i) (Q l bd i) := rfl
    have eA : rd l (rd bd i) = A l bd i := rfl
    have eQ : rd l (rd bd (nx bd i)) = Q l bd i := rfl
    rw [eA, eQ] at I
    rw [I, anyR, sumR, hO, hS]
    clear I r1 r2 r3 r4 r5 r6 r7 ew hO hS eA eQ SA SQ
    generalize A l bd i = a
    generalize Q l bd i = b
    by_cases e1 : a + b = 0
    · rw [if_pos e1, decide_eq_true e1, Bool.true_or, if_pos rfl]
    · rw [if_neg e1, decide_eq_false e1, Bool.false_or]
      unfold sg
      by_cases e2 : b = tu a
      · rw [if_pos e2, if_pos e2, w1, ih (i + 1) (x + 1) e0 b1 b2 k (by omega), Int.add_assoc]
      · rw [if_neg e2, if_neg e2]
        by_cases e3 : a = tu b
        · rw [if_pos e3, if_pos e3, w2, ih (i + 1) (x - 1) e0 b3 b4 k (by omega), show x - 1 + sumR (SS l bd) (i + 1) d = x + (-1 + sumR (SS l bd) (i + 1) d) by omega]
        · rw [if_neg e3, if_neg e3, ih (i + 1) x e0 b5 b6 k (by omega), Int.zero_add]
theorem turns_f (h : Lbl n l) (B : Brd n st bd M) (k : Nat) (hk : 300 ≤ k) : impl_SquareTurns.f k n l = some (TV l bd) := by
  have hb : bd.length < 100 := by have := B.len; have := B.m40; omega
  unfold impl_SquareTurns.f
  rw [h.areSigns, Option.bind_some, if_pos rfl, B.steps k hk, Option.bind_some, B.slen]
  have := turns_l0 h B bd.length 0 0 (by omega) (by omega) (by omega) k (by omega)
  rw [Int.zero_add] at this
  exact this

/-! ### other labels -/
theorem rd_map (f : Int → Int) (i : Int) (h0 : 0 ≤ i) (h1 : i < (l.length : Int)) : rd (l.map f) i = f (rd l i) := by
  unfold rd
  have hil : i.toNat < l.length := by omega
  rw [List.getD_eq_getElem?_getD, List.getD_eq_getElem?_getD, List.getElem?_map, List.getElem?_eq_getElem hil]
  rfl
theorem Lbl.neg (h : Lbl n l) : Lbl n (l.map fun x => wrap64 (-x)) := ⟨h.n1, h.n4, by rw [List.length_map]; exact h.len, fun x hx => by
  obtain ⟨y, hy, rfl⟩ := List.mem_map.mp hx
  have := (h.sg y hy).neg
  rw [this.2]; exact this.1⟩
theorem Lbl.turn (h : Lbl n l) : Lbl n (l.map Given.turn) := ⟨h.n1, h.n4, by rw [List.length_map]; exact h.len, fun x hx => by
  obtain ⟨y, hy, rfl⟩ := List.mem_map.mp hx
  exact (h.sg y hy).turn.1⟩
theorem TV_congr {l' : List Int} (B : Brd n st bd M) (hs : ∀ t, t < bd.length → SS l' bd t = SS l bd t ∧ OO l' bd t = OO l bd t) : TV l' bd = TV l bd := by
  unfold TV
  rw [anyR_congr bd.length 0 (fun t _ h2 => (hs t (by omega)).2), sumR_congr bd.length 0 (fun t _ h2 => (hs t (by omega)).1)]
theorem at_map (f : Int → Int) (h : Lbl n l) (B : Brd n st bd M) (t : Nat) (ht : t < bd.length) : A (l.map f) bd t = f (A l bd t) ∧ Q (l.map f) bd t = f (Q l bd t) := by
  obtain ⟨_, _, h3, h4⟩ := B.row t ht
  rw [← h.len] at h3 h4
  exact ⟨rd_map f _ h3.1 h3.2, rd_map f _ h4.1 h4.2⟩
theorem TV_neg (h : Lbl n l) (B : Brd n st bd M) : TV (l.map fun x => wrap64 (-x)) bd = TV l bd := by
  refine TV_congr B (fun t ht => ?_)
  obtain ⟨e1, e2⟩ := at_map (fun x => wrap64 (-x)) h B t ht
  obtain ⟨s1, s2⟩ := h.a B t ht
  unfold SS OO
  rw [e1, e2, s1.neg.2, s2.neg.2, sg_neg s1 s2]
  exact ⟨rfl, by congr 1; exact propext ⟨fun h => by omega, fun h => by omega⟩⟩
theorem TV_turn (h : Lbl n l) (B : Brd n st bd M) : TV (l.map Given.turn) bd = TV l bd := by
  refine TV_congr B (fun t ht => ?_)
  obtain ⟨e1, e2⟩ := at_map Given.turn h B t ht
  obtain ⟨s1, s2⟩ := h.a B t ht
  unfold SS OO
  rw [e1, e2, (sg_turn s1 s2).1]
  exact ⟨rfl, by congr 1; exact propext (sg_turn s1 s2).2⟩
theorem neg_neg (h : Lbl n l) : (l.map fun x => wrap64 (-x)).map (fun x => wrap64 (-x)) = l := by
  rw [List.map_map]
  conv => rhs; rw [← List.map_id l]
  exact List.map_congr_left (fun x hx => (h.sg x hx).turn.2.2)
theorem turn_turn (h : Lbl n l) : (l.map Given.turn).map Given.turn = l.map fun x => wrap64 (-x) := by
  rw [List.map_map]
  exact List.map_congr_left (fun x hx => (h.sg x hx).turn.2.1)

/-! ### doors -/
theorem cyc (h : Nat → Int) (m : Nat) : sumR (fun t => h (nxt (m + 1) t) - h t) 0 (m + 1) = 0 := by
  rw [sumR_split _ m 1 0]
  have e1 : sumR (fun t => h (nxt (m + 1) t) - h t) 0 m = sumR (fun t => h (t + 1) - h t) 0 m := sumR_congr m 0 (fun t _ ht => by unfold nxt; rw [if_pos (by omega)])
  rw [e1, sumR_tele]
  simp [sumR, nxt]
  omega
theorem Q_nxt (B : Brd n st bd M) (t : Nat) (ht : t < bd.length) : Q l bd t = A l bd (nxt bd.length t) := by
  unfold Q A
  rw [B.nx_ t ht]
theorem sum_doors (h : Lbl n l) (B : Brd n st bd M) (ho : anyR (OO l bd) 0 bd.length = false) : sumR (SS l bd) 0 bd.length = 4 * sumR (GG l bd) 0 bd.length := by
  have e1 : sumR (SS l bd) 0 bd.length = sumR (fun t => (rp (A l bd (nxt bd.length t)) - rp (A l bd t)) + 4 * GG l bd t) 0 bd.length := by
    refine sumR_congr bd.length 0 (fun t _ ht => ?_)
    have ht' : t < bd.length := by omega
    obtain ⟨s1, s2⟩ := h.a B t ht'
    have h3 := anyR_false bd.length 0 ho t (by omega) ht
    unfold OO at h3
    have h4 := sg_rp s1 s2 (of_decide_eq_false h3)
    rw [← Q_nxt B t ht']
    exact h4
  rw [e1, sumR_add, sumR_mul]
  obtain ⟨m, hm⟩ : ∃ m, bd.length = m + 1 := ⟨bd.length - 1, by have := B.len; have := B.m1; omega⟩
  rw [hm, cyc (fun t => rp (A l bd t)) m, Int.zero_add]
theorem GG_le (h : Lbl n l) (B : Brd n st bd M) (d : Nat) : ∀ i, i + d = bd.length → -(d : Int) ≤ sumR (GG l bd) i d ∧ sumR (GG l bd) i d ≤ d := by
  induction d with
  | zero => intro i _; simp [sumR]
  | succ d ih =>
    intro i hi
    have h1 := ih (i + 1) (by omega)
    obtain ⟨s1, s2⟩ := h.a B i (by omega)
    have h2 := gdr_le s1 s2
    have h3 : GG l bd i = gdr (A l bd i) (Q l bd i) := rfl
    rw [sumR]
    omega
theorem TV_doors (h : Lbl n l) (B : Brd n st bd M) (ho : anyR (OO l bd) 0 bd.length = false) : TV l bd = (sumR (GG l bd) 0 bd.length, true) := by
  have h1 := GG_le h B bd.length 0 (by omega)
  have h2 := B.len
  have h3 := B.m40
  unfold TV
  rw [ho, if_neg (by decide), sum_doors h B ho, Int.mul_tdiv_cancel_left _ (by decide), wr (by omega) (by omega)]

/-! ### opposite labels -/
theorem odd (h : Lbl n l) (B : Brd n st bd M) (ho : anyR (OO l bd) 0 bd.length = false) (hop : ∀ i ∈ bd, rd l i + rd l (signs n - 1 - i) = 0) : ∃ q : Int, sumR (GG l bd) 0 bd.length = 2 * q + 1 := by
  have h4 := sum_doors h B ho
  have hin : ∀ t : Nat, t < bd.length → rd bd t ∈ bd ∧ rd bd (nx bd t) ∈ bd := by
    intro t ht
    obtain ⟨_, h2, _, _⟩ := B.row t ht
    constructor
    · unfold rd; rw [List.getD_eq_getElem?_getD, List.getElem?_eq_getElem (by omega)]; simp
    · unfold rd; rw [List.getD_eq_getElem?_getD, List.getElem?_eq_getElem (by omega)]; simp
  have hanti : ∀ t : Nat, t < M → A l bd (t + M) = - A l bd t ∧ Q l bd (t + M) = - Q l bd t := by
    intro t ht
    have hl := B.len
    obtain ⟨a1, a2⟩ := B.anti t ht
    obtain ⟨m1, m2⟩ := hin t (by omega)
    have e1 := hop _ m1
    have e2 := hop _ m2
    unfold A Q
    rw [a1, a2]
    omega
  have e1 : sumR (SS l bd) 0 bd.length = 2 * sumR (SS l bd) 0 M := by
    rw [B.len, sumR_split _ M M 0, sumR_shift (SS l bd) M M 0]
    have e2 : sumR (fun t => SS l bd (t + M)) 0 M = sumR (SS l bd) 0 M := by
      refine sumR_congr M 0 (fun t _ ht => ?_)
      have ht' : t < M := by omega
      obtain ⟨a1, a2⟩ := hanti t ht'
      obtain ⟨s1, s2⟩ := h.a B t (by have := B.len; omega)
      show sg (A l bd (t + M)) (Q l bd (t + M)) = sg (A l bd t) (Q l bd t)
      rw [a1, a2, sg_neg s1 s2]
    rw [e2]; omega
  have e3 : sumR (SS l bd) 0 M = (pp (A l bd M) - pp (A l bd 0)) + 4 * sumR (fun t => cp (A l bd t) (Q l bd t)) 0 M := by
    have e4 : sumR (SS l bd) 0 M = sumR (fun t => (pp (A l bd (t + 1)) - pp (A l bd t)) + 4 * cp (A l bd t) (Q l bd t)) 0 M := by
      refine sumR_congr M 0 (fun t _ ht => ?_)
      have hl := B.len
      have hm := B.m1
      have ht' : t < bd.length := by omega
      obtain ⟨s1, s2⟩ := h.a B t ht'
      have h3 := anyR_false bd.length 0 ho t (by omega) (by omega)
      unfold OO at h3
      have h5 := sg_pp s1 s2 (of_decide_eq_false h3)
      have h6 : A l bd (t + 1) = Q l bd t := by rw [Q_nxt B t ht']; unfold nxt; rw [if_pos (by omega)]
      rw [h6]
      exact h5
    rw [e4, sumR_add, sumR_mul, sumR_tele (fun t => pp (A l bd t)) M 0, Nat.zero_add]
  have e5 : A l bd M = - A l bd 0 := by
    have := (hanti 0 (by have := B.m1; omega)).1
    rwa [Nat.zero_add] at this
  have s0 := (h.a B 0 (by have := B.len; have := B.m1; omega)).1
  have e6 := pp_neg s0
  rw [← e5] at e6
  generalize sumR (fun t => cp (A l bd t) (Q l bd t)) 0 M = C at e3
  rcases e6 with e6 | e6
  · exact ⟨C, by omega⟩
  · exact ⟨C - 1, by omega⟩
end
end Go.Proofs.Ytmdhclpkbopmdaa.Pi
