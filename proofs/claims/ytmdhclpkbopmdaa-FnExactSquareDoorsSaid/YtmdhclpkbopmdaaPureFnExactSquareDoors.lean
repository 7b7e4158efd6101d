/- The law FnExactSquareDoors answers true for every int n and every list of ints: the program's SquareDoors and the reference's return the same, in memory of their own. No condition. -/
import Derived.Test.YtmdhclpkbopmdaaLwSquareDoors
import Derived.Test.YtmdhclpkbopmdaaPo
import Derived.Test.YtmdhclpkbopmdaaGy
namespace Go.Proofs.Ytmdhclpkbopmdaa.Pure
open Go.RowKit Go.Proofs.Ytmdhclpkbopmdaa.Q Go.Proofs.Ytmdhclpkbopmdaa.Given Go.Proofs.Ytmdhclpkbopmdaa.Pz Go.Proofs.Ytmdhclpkbopmdaa.Pm Go.Proofs.Ytmdhclpkbopmdaa.Po Go.Proofs.Ytmdhclpkbopmdaa.Pg Go.Proofs.YtmdhclpkbopmdaaW.PrintWords Go.Proofs.YtmdhclpkbopmdaaW.PrintLast
set_option linter.unusedVariables false
set_option linter.unusedSimpArgs false

namespace SquareDoors
def nx (bd : List Int) (i : Nat) : Int := Int.tmod (wrap64 ((i : Int) + 1)) (bd.length : Int)
def rowOk (n : Int) (bd : List Int) (st : List (List Int)) (i : Nat) : Bool :=
  (rd_L1 st i == [rd bd i, rd bd (nx bd i)]) && (decide (0 ≤ nx bd i) && decide (nx bd i < (bd.length : Int))) &&
  (decide (0 ≤ rd bd i) && decide (rd bd i < signs n)) && (decide (0 ≤ rd bd (nx bd i)) && decide (rd bd (nx bd i) < signs n))
def stChk (n : Int) : Bool := match impl_square_steps.f 300 n, spec_opBorder.f 300 n with
  | some st, some bd => decide (bd.length < 100) && (decide (0 < bd.length) && decide (st.length = bd.length)) && (List.range bd.length).all (rowOk n bd st)
  | _, _ => false
set_option maxRecDepth 100000 in
theorem st_chk {n : Int} (h1 : 1 ≤ n) (h2 : n ≤ 4) : stChk n = true := by
  obtain rfl | rfl | rfl | rfl : n = 1 ∨ n = 2 ∨ n = 3 ∨ n = 4 := by omega
  all_goals decide +kernel
theorem st_of {n : Int} (h1 : 1 ≤ n) (h2 : n ≤ 4) : ∃ st bd, (∀ k, 300 ≤ k → impl_square_steps.f k n = some st ∧ spec_opBorder.f k n = some bd) ∧ bd.length < 100 ∧ 0 < bd.length ∧ st.length = bd.length ∧
    ∀ i : Nat, i < bd.length → rd_L1 st i = [rd bd i, rd bd (nx bd i)] ∧ (0 ≤ nx bd i ∧ nx bd i < (bd.length : Int)) ∧ (0 ≤ rd bd i ∧ rd bd i < signs n) ∧ 0 ≤ rd bd (nx bd i) ∧ rd bd (nx bd i) < signs n := by
  have h := st_chk h1 h2
  unfold stChk at h
  cases ha : impl_square_steps.f 300 n with
  | none => rw [ha] at h; simp at h
  | some st =>
    cases hb : spec_opBorder.f 300 n with
    | none => rw [ha, hb] at h; simp at h
    | some bd =>
      rw [ha, hb] at h
      simp only [Bool.and_eq_true, beq_iff_eq, List.all_eq_true, decide_eq_true_eq, List.mem_range, rowOk] at h
      obtain ⟨⟨c1, c2, c3⟩, h⟩ := h
      refine ⟨st, bd, fun k hk => ⟨at_rounds (g := fun k => impl_square_steps.f k n) (fun k => impl_square_steps.mono _ _) hk ha, at_rounds (g := fun k => spec_opBorder.f k n) (fun k => spec_opBorder.mono _ _) hk hb⟩, c1, c2, c3, fun i hi => ?_⟩
      obtain ⟨⟨⟨e, f⟩, g⟩, h⟩ := h i hi
      exact ⟨e, f, g, h⟩

def Sg (x : Int) : Prop := x = -2 ∨ x = -1 ∨ x = 1 ∨ x = 2
theorem sd_of {a b : Int} (ha : Sg a) (hb : Sg b) : sdoor a b = (wrap64 (a + b) == 3) := by
  rcases ha with rfl | rfl | rfl | rfl <;> rcases hb with rfl | rfl | rfl | rfl
  all_goals decide +kernel
theorem dropD_two (l : List Int) (p q : Int) : (!(dropD l [p, q])) = sdoor (rd l p) (rd l q) := by
  unfold dropD
  rw [Bool.not_not]
  rfl
theorem stepIn_two {l : List Int} {p q : Int} (h4 : 0 ≤ p ∧ p < (l.length : Int)) (h6 : 0 ≤ q ∧ q < (l.length : Int)) : stepIn l [p, q] := ⟨rfl, h4, h6⟩
theorem spec_no {k : Nat} {a : Int} {l : List Int} (h : spec_opLabels.f k a l = some false) : spec_SquareDoors.f k a l = some ([], false) := by
  unfold spec_SquareDoors.f; rw [h, Option.bind_some, if_neg (by decide)]
theorem impl_no {k : Nat} {a : Int} {l : List Int} (h : impl_areSigns.f a l = some false) : impl_SquareDoors.f k a l = some ([], false) := by
  unfold impl_SquareDoors.f; rw [h, Option.bind_some, if_neg (by decide)]
theorem spec_yes {k : Nat} {a : Int} {l bd : List Int} {r : List (List Int)} (h : spec_opLabels.f k a l = some true) (hb : spec_opBorder.f k a = some bd) (hr : spec_opDoors.l0 k l bd [] bd (bd.length : Int) 0 = some r) : spec_SquareDoors.f k a l = some (r, true) := by
  unfold spec_SquareDoors.f spec_opDoors.f; rw [h, Option.bind_some, if_pos rfl, hb, Option.bind_some, hr, Option.bind_some]
theorem impl_yes {k : Nat} {a : Int} {l : List Int} {st : List (List Int)} (h : impl_areSigns.f a l = some true) (hs : impl_square_steps.f k a = some st) (hp : 0 < st.length ∧ ∀ x ∈ st, stepIn l x) : impl_SquareDoors.f k a l = some (st.filter fun x => !(dropD l x), true) := by
  unfold impl_SquareDoors.f impl_squareDoors.f; rw [h, Option.bind_some, if_pos rfl, hs, Option.bind_some, if_pos hp, Option.bind_some]
theorem stepS {l bd out : List Int} {o : List (List Int)} {i j m : Int} {t : Bool} (hj : Int.tmod (wrap64 (i + 1)) (bd.length : Int) = j) (c1 : i < (bd.length : Int)) (c2 : 0 ≤ i) (c3 : ¬ (bd.length : Int) = 0) (r2 : 0 ≤ j) (r3 : j < (bd.length : Int)) (ed : spec_opDoor.f l (rd bd i) (rd bd j) = some t) (ho : o.length < 5864062014805) (hw : wrap64 (i + 1) = m) (k : Nat) :
    spec_opDoors.l0 (k + 1) l bd o bd (bd.length : Int) i = if t = true then spec_opDoors.l0 k l bd (o ++ [[rd bd i, rd bd j]]) bd (bd.length : Int) m else spec_opDoors.l0 k l bd o bd (bd.length : Int) m := by
  rw [spec_opDoors.l0, if_pos c1, if_pos c2, if_pos c1, if_neg c3, hj, if_pos r2, if_pos r3, ed, Option.bind_some, if_pos ho, hw]
theorem opDoor_f {l : List Int} {p q : Int} (r4 : 0 ≤ p) (r5 : p < (l.length : Int)) (r6 : 0 ≤ q) (r7 : q < (l.length : Int)) : spec_opDoor.f l p q = some (wrap64 (rd l p + rd l q) == 3) := by
  unfold spec_opDoor.f
  rw [if_pos r4, if_pos r5, if_pos r6, if_pos r7]
theorem arith {i d L : Nat} (h : i + (d + 1) = L) (hb : L < 100) : wrap64 ((i : Int) + 1) = ((i + 1 : Nat) : Int) ∧ (i + 1) + d = L := by
  refine ⟨?_, by omega⟩
  rw [wr (by omega) (by omega)]; omega
theorem loop {n : Int} {l bd : List Int} {st : List (List Int)} (hl : (l.length : Int) = signs n) (hs : ∀ i : Int, 0 ≤ i → i < (l.length : Int) → Sg (rd l i)) (hb : bd.length < 100) (h0 : 0 < bd.length) (hst : st.length = bd.length)
    (hr : ∀ i : Nat, i < bd.length → rd_L1 st i = [rd bd i, rd bd (nx bd i)] ∧ (0 ≤ nx bd i ∧ nx bd i < (bd.length : Int)) ∧ (0 ≤ rd bd i ∧ rd bd i < signs n) ∧ 0 ≤ rd bd (nx bd i) ∧ rd bd (nx bd i) < signs n) (d : Nat) :
    ∀ (i : Nat) (o : List (List Int)), i + d = bd.length → o.length ≤ i → ∀ k, d < k → spec_opDoors.l0 k l bd o bd (bd.length : Int) i = some (o ++ (st.drop i).filter fun x => !(dropD l x)) := by
  have c3 : ¬ (bd.length : Int) = 0 := by clear hr hs hl; omega
  induction d with
  | zero =>
    intro i o hi ho k hk
    have hn : ¬ (i : Int) < (bd.length : Int) := by clear hr hs hl; omega
    have hd : st.drop i = [] := List.drop_eq_nil_of_le (by clear hr hs hl; omega)
    cases k with
    | zero => exact absurd hk (Nat.not_lt_zero _)
    | succ k => rw [spec_opDoors.l0, if_neg hn, hd]; simp
  | succ d ih =>
    intro i o hi ho k hk
    have c1 : (i : Int) < (bd.length : Int) := by clear ih hr hs hl; omega
    have c2 : (0 : Int) ≤ (i : Int) := Int.natCast_nonneg _
    have c5 : i < bd.length := by clear ih hr hs hl; omega
    have c6 : i < st.length := by rw [hst]; exact c5
    have ho2 : o.length < 5864062014805 := by clear ih hr hs hl; omega
    have ho3 : o.length ≤ i + 1 := by clear ih hr hs hl; omega
    obtain ⟨hw, e0⟩ := arith hi hb
    obtain ⟨r1, ⟨r2, r3⟩, ⟨r4, r5⟩, r6, r7⟩ := hr i c5
    rw [← hl] at r5 r7
    have hdr : st.drop i = [rd bd i, rd bd (nx bd i)] :: st.drop (i + 1) := by
      rw [List.drop_eq_getElem_cons c6, ← r1, rd_row st i c6]
    have hp : (!(dropD l [rd bd i, rd bd (nx bd i)])) = (wrap64 (rd l (rd bd i) + rd l (rd bd (nx bd i))) == 3) := (dropD_two l _ _).trans (sd_of (hs _ r4 r5) (hs _ r6 r7))
    have S := stepS (o := o) (j := nx bd i) (out := []) rfl c1 c2 c3 r2 r3 (opDoor_f r4 r5 r6 r7) ho2 hw
    generalize (wrap64 (rd l (rd bd i) + rd l (rd bd (nx bd i))) == 3) = t at S hp
    clear r1 r2 r3 r4 r5 r6 r7 hr hs
    cases k with
    | zero => exact absurd hk (Nat.not_lt_zero _)
    | succ k =>
      have hk' := Nat.lt_of_succ_lt_succ hk
      rw [S, hdr, List.filter_cons, hp]
      cases t with
      | true =>
        rw [if_pos rfl, if_pos rfl, ih (i + 1) _ e0 (by rw [List.length_append]; exact Nat.add_le_add_right ho 1) k hk']
        simp
      | false =>
        rw [if_neg (by decide), if_neg (by decide), ih (i + 1) _ e0 ho3 k hk']
end SquareDoors

theorem FnExactSquareDoors : laws_FnExactSquareDoors.Pure := by
  intro a l _ _ _ _ hb
  have hm : l.length ≤ 1099511627776 := by omega
  obtain ⟨K, hK⟩ : ∃ K, l.length + 397 ≤ K := ⟨_, Nat.le_refl _⟩
  obtain ⟨b, h1, h2, h3⟩ := opLabels_f a l hm K (by omega)
  cases b with
  | false => exact ⟨K, ([], false), SquareDoors.spec_no h1, SquareDoors.impl_no h2, by simp [Small]⟩
  | true =>
    obtain ⟨⟨a1, a4⟩, hl, hv⟩ := h3 rfl
    obtain ⟨st, bd, b1, b2, b3, b4, b5⟩ := SquareDoors.st_of a1 a4
    have hs : ∀ i : Int, 0 ≤ i → i < (l.length : Int) → SquareDoors.Sg (rd l i) := by
      intro i i0 i1
      have hil : i.toNat < l.length := by clear b5; omega
      have e : rd l i = l[i.toNat] := by unfold rd; rw [List.getD_eq_getElem?_getD, List.getElem?_eq_getElem hil]; rfl
      rw [e]
      exact hv _ (List.getElem_mem hil)
    have hbK : bd.length < K := by clear b5 hs; omega
    have hK3 : 300 ≤ K := by clear b5 hs; omega
    have hq := SquareDoors.loop (n := a) (st := st) hl hs b2 b3 b4 b5 bd.length 0 [] (Nat.zero_add _) (Nat.le_refl _) K hbK
    rw [List.nil_append, List.drop_zero] at hq
    obtain ⟨z1, z2⟩ := b1 K hK3
    rw [← hl] at b5
    have hin : ∀ x ∈ st, stepIn l x := by
      intro x hx
      obtain ⟨i, hi, rfl⟩ := List.mem_iff_getElem.mp hx
      obtain ⟨r1, _, r4, r6⟩ := b5 i (b4 ▸ hi)
      rw [rd_row st i hi] at r1
      rw [r1]
      exact SquareDoors.stepIn_two r4 r6
    have hpos : 0 < st.length ∧ ∀ x ∈ st, stepIn l x := ⟨b4.symm ▸ b3, hin⟩
    refine ⟨K, _, SquareDoors.spec_yes h1 z2 hq, SquareDoors.impl_yes h2 z1 hpos, ?_, ?_⟩
    · have h9 := List.length_filter_le (fun x => !(dropD l x)) st
      exact Nat.le_trans h9 (by clear b5 hs h9 hpos hin hq; omega)
    · intro r hr
      have h9 := (hin r (List.mem_filter.mp hr).1).1
      rw [h9]
      decide
end Go.Proofs.Ytmdhclpkbopmdaa.Pure
