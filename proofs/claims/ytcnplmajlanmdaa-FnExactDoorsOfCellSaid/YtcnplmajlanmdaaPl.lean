/- Plain facts on the steps of a triangle's border and its doors, the program's and the reference's. -/
import Derived.Test.YtcnplmajlanmdaaPk
import Derived.Test.YtcnplmajlanmdaaPg
import Derived.Test.YtcnplmajlanmdaaHb
import Derived.Test.YtcnplmajlanmdaaQx3
import Derived.Test.YtcnplmajlanmdaaQx4
namespace Go.Proofs.Ytcnplmajlanmdaa.Pl
open Go.RowKit Go.Proofs.Ytcnplmajlanmdaa.Q Go.Proofs.Ytcnplmajlanmdaa.Given Go.Proofs.Ytcnplmajlanmdaa.Pz Go.Proofs.Ytcnplmajlanmdaa.Pm Go.Proofs.Ytcnplmajlanmdaa.Pn Go.Proofs.Ytcnplmajlanmdaa.Pk Go.Proofs.Ytcnplmajlanmdaa.Pg Go.Proofs.YtcnplmajlanmdaaW.PrintWords Go.Proofs.YtcnplmajlanmdaaW.PrintLast
set_option linter.unusedVariables false
set_option linter.unusedSimpArgs false

/-- The number of the next point of the border. -/
def nx (bd : List Int) (i : Nat) : Int := Int.tmod (wrap64 ((i : Int) + 1)) (bd.length : Int)
def stp (bd : List Int) (i : Nat) : List Int := [rd bd i, rd bd (nx bd i)]
def stepsL (bd : List Int) : List (List Int) := (List.range bd.length).map (stp bd)
theorem stepsL_len (bd : List Int) : (stepsL bd).length = bd.length := by simp [stepsL]
theorem stepsL_drop {bd : List Int} {i : Nat} (h : i < bd.length) : (stepsL bd).drop i = stp bd i :: (stepsL bd).drop (i + 1) := by
  rw [List.drop_eq_getElem_cons (by rw [stepsL_len]; exact h)]
  simp [stepsL]
theorem nx_in {bd : List Int} (hb : bd.length ≤ 24) {i : Nat} (h : i < bd.length) : 0 ≤ nx bd i ∧ nx bd i < (bd.length : Int) := by
  unfold nx
  rw [wr (by omega) (by omega), show ((i : Int) + 1) = ((i + 1 : Nat) : Int) by omega]
  rw [Int.tmod_eq_emod_of_nonneg (by omega)]
  exact ⟨Int.emod_nonneg _ (by omega), Int.emod_lt_of_pos _ (by omega)⟩
theorem arith {i d L : Nat} (h : i + (d + 1) = L) (hb : L ≤ 24) : wrap64 ((i : Int) + 1) = ((i + 1 : Nat) : Int) ∧ (i + 1) + d = L := by
  refine ⟨?_, by omega⟩
  rw [wr (by omega) (by omega)]; omega
theorem rd_mem {l : List Int} {i : Int} (h0 : 0 ≤ i) (h1 : i < (l.length : Int)) : rd l i ∈ l := by
  unfold rd
  rw [List.getD_eq_getElem?_getD, List.getElem?_eq_getElem (by omega)]
  simp

theorem steps_l0 {a : Int} {l : List Int} {cs : List (List Int)} {bd : List Int} (hb : bd.length ≤ 24) (d : Nat) : ∀ (i : Nat) (o : List (List Int)), i + d = bd.length → o.length ≤ i → ∀ k, d < k →
    impl_house_steps.l0 k o bd (bd.length : Int) (i : Int) a l cs bd = some (o ++ (stepsL bd).drop i) := by
  induction d with
  | zero =>
    intro i o hi ho k hk
    obtain ⟨k, rfl⟩ : ∃ m, k = m + 1 := ⟨k - 1, by omega⟩
    rw [impl_house_steps.l0, if_neg (by omega), List.drop_eq_nil_of_le (by rw [stepsL_len]; omega)]
    simp
  | succ d ih =>
    intro i o hi ho k hk
    obtain ⟨k, rfl⟩ : ∃ m, k = m + 1 := ⟨k - 1, by omega⟩
    obtain ⟨hw, e0⟩ := arith hi hb
    have hil : i < bd.length := by omega
    obtain ⟨r2, r3⟩ := nx_in hb hil
    have c3 : ¬ (bd.length : Int) = 0 := by omega
    have en : Int.tmod (wrap64 ((i : Int) + 1)) (bd.length : Int) = nx bd i := rfl
    rw [impl_house_steps.l0, en, if_pos (by omega), if_pos (by omega), if_pos (by omega), if_neg c3, if_pos r2, if_pos r3, if_pos (by omega), hw, ih (i + 1) _ e0 (by rw [List.length_append]; simp; omega) k (by omega), stepsL_drop hil]
    simp [stp]
theorem steps_f {a : Int} {l : List Int} {cs : List (List Int)} {bd : List Int} (hb : bd.length ≤ 24) (k : Nat) (hk : bd.length < k) : impl_house_steps.f k a l cs bd = some (stepsL bd) := by
  have := steps_l0 (a := a) (l := l) (cs := cs) hb bd.length 0 [] (by omega) (by simp) k hk
  simpa [impl_house_steps.f] using this

theorem hdoor_lab {a b : Int} (ha : Lab a) (hb : Lab b) : hdoor a b = (wrap64 (a + b) == 1) := by
  obtain rfl | rfl | rfl := lab_cases ha <;> obtain rfl | rfl | rfl := lab_cases hb <;> decide +kernel
theorem drop_two (l : List Int) (p q : Int) : (!(dropH l [p, q])) = hdoor (rd l p) (rd l q) := by
  unfold dropH
  rw [Bool.not_not]
  rfl
theorem doDoor_f {l : List Int} {p q : Int} (r4 : 0 ≤ p) (r5 : p < (l.length : Int)) (r6 : 0 ≤ q) (r7 : q < (l.length : Int)) : spec_doDoor.f l p q = some (wrap64 (rd l p + rd l q) == 1) := by
  unfold spec_doDoor.f
  rw [if_pos r4, if_pos r5, if_pos r6, if_pos r7]

/-- All that is needed of the border. -/
structure Brd (l bd : List Int) : Prop where
  bl : bd.length ≤ 24
  b0 : 0 < bd.length
  rng : ∀ i : Int, 0 ≤ i → i < (bd.length : Int) → 0 ≤ rd bd i ∧ rd bd i < (l.length : Int)
  lab : ∀ i : Int, 0 ≤ i → i < (l.length : Int) → Lab (rd l i)

theorem border_l0 {l bd : List Int} (H : Brd l bd) (d : Nat) : ∀ (i : Nat) (o : List (List Int)), i + d = bd.length → o.length ≤ i → ∀ k, d < k →
    spec_doBorder.l0 k l bd o bd (bd.length : Int) (i : Int) = some (o ++ ((stepsL bd).drop i).filter fun x => !(dropH l x)) := by
  induction d with
  | zero =>
    intro i o hi ho k hk
    obtain ⟨k, rfl⟩ : ∃ m, k = m + 1 := ⟨k - 1, by omega⟩
    rw [spec_doBorder.l0, if_neg (by omega), List.drop_eq_nil_of_le (by rw [stepsL_len]; omega)]
    simp
  | succ d ih =>
    intro i o hi ho k hk
    obtain ⟨k, rfl⟩ : ∃ m, k = m + 1 := ⟨k - 1, by omega⟩
    have hb := H.bl
    obtain ⟨hw, e0⟩ := arith hi hb
    have hil : i < bd.length := by omega
    obtain ⟨r2, r3⟩ := nx_in hb hil
    obtain ⟨r4, r5⟩ := H.rng i (by omega) (by omega)
    obtain ⟨r6, r7⟩ := H.rng _ r2 r3
    have c3 : ¬ (bd.length : Int) = 0 := by omega
    have en : Int.tmod (wrap64 ((i : Int) + 1)) (bd.length : Int) = nx bd i := rfl
    have hp : (!(dropH l (stp bd i))) = (wrap64 (rd l (rd bd i) + rd l (rd bd (nx bd i))) == 1) := (drop_two l _ _).trans (hdoor_lab (H.lab _ r4 r5) (H.lab _ r6 r7))
    rw [spec_doBorder.l0, en, if_pos (by omega), if_pos (by omega), if_pos (by omega), if_neg c3, if_pos r2, if_pos r3, doDoor_f r4 r5 r6 r7, Option.bind_some, if_pos (show o.length < 5864062014805 by omega), hw, stepsL_drop hil, List.filter_cons, hp]
    generalize (wrap64 (rd l (rd bd i) + rd l (rd bd (nx bd i))) == 1) = t
    cases t with
    | true =>
      rw [if_pos rfl, if_pos rfl, ih (i + 1) _ e0 (by rw [List.length_append]; simp; omega) k (by omega)]
      simp [stp]
    | false =>
      rw [if_neg (by decide), if_neg (by decide), ih (i + 1) _ e0 (by omega) k (by omega)]

def brdChk (n : Int) : Bool := (spec_meBorder.f 20000 n == impl_border.f 20000 n) && (impl_border.f 20000 n).isSome
set_option maxRecDepth 100000 in
theorem brd_chk {n : Int} (h1 : 1 ≤ n) (h2 : n ≤ 8) : brdChk n = true := by
  obtain rfl | rfl | rfl | rfl | rfl | rfl | rfl | rfl : n = 1 ∨ n = 2 ∨ n = 3 ∨ n = 4 ∨ n = 5 ∨ n = 6 ∨ n = 7 ∨ n = 8 := by omega
  all_goals decide +kernel
theorem meBorder_of {n : Int} {cs : List (List Int)} {bd : List Int} (hc : Cls n cs bd) (h1 : 1 ≤ n) (h2 : n ≤ 8) : ∀ k, 20000 ≤ k → spec_meBorder.f k n = some bd := by
  have h := brd_chk h1 h2
  unfold brdChk at h
  simp only [Bool.and_eq_true, beq_iff_eq] at h
  have e := h.1
  rw [hc.ib 20000 (Nat.le_refl _)] at e
  exact fun k hk => at_rounds (g := fun k => spec_meBorder.f k n) (fun k => spec_meBorder.mono _ _) hk e
theorem brd_of {n : Int} {l : List Int} {cs : List (List Int)} {bd : List Int} (H : Hse n l cs bd) : Brd l bd where
  bl := H.cls.bl.2
  b0 := H.cls.bl.1
  rng := fun i h0 h1 => by rw [H.len]; exact H.cls.bm _ (rd_mem h0 h1)
  lab := fun i h0 h1 => rd_lab H.lab h0 h1

theorem stepIn_two {l : List Int} {p q : Int} (h4 : 0 ≤ p ∧ p < (l.length : Int)) (h6 : 0 ≤ q ∧ q < (l.length : Int)) : stepIn l [p, q] := ⟨rfl, h4, h6⟩
theorem steps_in {l bd : List Int} (H : Brd l bd) : 0 < (stepsL bd).length ∧ ∀ x ∈ stepsL bd, stepIn l x := by
  refine ⟨by rw [stepsL_len]; exact H.b0, fun x hx => ?_⟩
  unfold stepsL at hx
  obtain ⟨i, hi, rfl⟩ := List.mem_map.mp hx
  have hil := List.mem_range.mp hi
  obtain ⟨r2, r3⟩ := nx_in H.bl hil
  have i0 : (0 : Int) ≤ (i : Int) := Int.natCast_nonneg i
  have i1 : (i : Int) < (bd.length : Int) := by clear r2 r3 H; omega
  unfold stp
  exact stepIn_two (H.rng i i0 i1) (H.rng _ r2 r3)

/-- The doors of the border. -/
def doorsL (l bd : List Int) : List (List Int) := (stepsL bd).filter fun x => !(dropH l x)
theorem doorsL_len (l bd : List Int) : (doorsL l bd).length ≤ bd.length := by
  have := List.length_filter_le (fun x => !(dropH l x)) (stepsL bd)
  rwa [stepsL_len] at this
theorem doorsL_in {l bd : List Int} (H : Brd l bd) : ∀ x ∈ doorsL l bd, stepIn l x := fun x hx => (steps_in H).2 x (List.mem_filter.mp hx).1
theorem entries_f {a : Int} {l : List Int} {cs : List (List Int)} {bd : List Int} (H : Brd l bd) (k : Nat) (hk : 24 < k) : impl_house_entries.f k a l cs bd = some (doorsL l bd) := by
  unfold impl_house_entries.f
  rw [steps_f H.bl k (by have := H.bl; omega), Option.bind_some, if_pos (steps_in H)]
  rfl
theorem doBorder_f {n : Int} {l : List Int} {cs : List (List Int)} {bd : List Int} (H : Hse n l cs bd) (k : Nat) (hk : 20000 ≤ k) : spec_doBorder.f k n l = some (doorsL l bd) := by
  unfold spec_doBorder.f
  rw [meBorder_of H.cls H.n1 H.n8 k hk, Option.bind_some]
  have := border_l0 (brd_of H) bd.length 0 [] (by omega) (by simp) k (by have := (brd_of H).bl; omega)
  simpa [doorsL] using this
end Go.Proofs.Ytcnplmajlanmdaa.Pl
