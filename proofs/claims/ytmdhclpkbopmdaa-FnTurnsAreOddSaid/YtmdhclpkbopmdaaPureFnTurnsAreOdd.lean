/- The law FnTurnsAreOdd answers true for all bytes: turns of opposite labels are odd, other signs turn nothing, one place more all alike, and doors by their directions are as many as turns. No condition. -/
import Derived.Test.YtmdhclpkbopmdaaLwTurnsAreOdd
import Derived.Test.YtmdhclpkbopmdaaHd
import Derived.Test.YtmdhclpkbopmdaaPf
import Derived.Test.YtmdhclpkbopmdaaPs
import Derived.Test.YtmdhclpkbopmdaaPi
namespace Go.Proofs.Ytmdhclpkbopmdaa.Pure
open Go.RowKit Go.Proofs.Ytmdhclpkbopmdaa.Q Go.Proofs.Ytmdhclpkbopmdaa.Given Go.Proofs.Ytmdhclpkbopmdaa.Pj Go.Proofs.Ytmdhclpkbopmdaa.Pf Go.Proofs.Ytmdhclpkbopmdaa.Ps Go.Proofs.Ytmdhclpkbopmdaa.Pi Go.Proofs.YtmdhclpkbopmdaaW.PrintWords Go.Proofs.YtmdhclpkbopmdaaW.PrintLast
open Go.Proofs.Ytmdhclpkbopmdaa.Po (opLabels_f neg_l0 turn_l0)
set_option linter.unusedVariables false
set_option linter.unusedSimpArgs false

namespace TurnsAreOdd
section
variable {n : Int} {l bd : List Int} {st : List (List Int)} {M : Nat}
theorem unop_f (h : Lbl n l) {i : Int} (h0 : 0 ≤ i ∧ i < signs n) (h1 : 0 ≤ wrap64 ((signs n - 1) - i) ∧ wrap64 ((signs n - 1) - i) < signs n) (h9 : 9 ≤ signs n ∧ signs n ≤ 81) : unop l i = !decide (rd l i + rd l (signs n - 1 - i) = 0) := by
  have hw : wrap64 ((signs n - 1) - i) = signs n - 1 - i := wr (by omega) (by omega)
  have s1 := h.at_ i h0.1 h0.2
  rw [hw] at h1
  have s2 := h.at_ _ h1.1 h1.2
  unfold unop unopM
  rw [h.len, hw]
  obtain ⟨_, _, _, _, _, e⟩ := D_of s1 s2
  rw [e]
  generalize rd l i + rd l (signs n - 1 - i) = x
  by_cases c : x = 0
  · subst c; rfl
  · rw [decide_eq_false c, bne_iff_ne.mpr c]; rfl
theorem any_turn (h : Lbl n l) (B : Brd n st bd M) (hb : ∀ i ∈ bd, (0 ≤ i ∧ i < signs n) ∧ 0 ≤ wrap64 ((signs n - 1) - i) ∧ wrap64 ((signs n - 1) - i) < signs n) : bd.any (unop (l.map Given.turn)) = bd.any (unop l) := by
  have : ∀ i ∈ bd, unop (l.map Given.turn) i = unop l i := by
    intro i hi
    obtain ⟨h0, h1⟩ := hb i hi
    rw [unop_f h h0 h1 B.sg9, unop_f h.turn h0 h1 B.sg9]
    have hw : wrap64 ((signs n - 1) - i) = signs n - 1 - i := by have := B.sg9; exact wr (by omega) (by omega)
    rw [hw] at h1
    have s1 := h.at_ i h0.1 h0.2
    have s2 := h.at_ _ h1.1 h1.2
    rw [← h.len] at h0 h1
    rw [rd_map Given.turn i h0.1 h0.2, rd_map Given.turn _ (by rw [← h.len]; exact h1.1) (by rw [← h.len]; exact h1.2)]
    congr 2
    exact propext (sg_turn s1 s2).2
  rw [List.any_eq, List.any_eq]
  congr 1
  exact propext ⟨fun ⟨x, hx, h⟩ => ⟨x, hx, this x hx ▸ h⟩, fun ⟨x, hx, h⟩ => ⟨x, hx, (this x hx).symm ▸ h⟩⟩
theorem opp_f (h : Lbl n l) (B : Brd n st bd M) (hb : ∀ i ∈ bd, (0 ≤ i ∧ i < signs n) ∧ 0 ≤ wrap64 ((signs n - 1) - i) ∧ wrap64 ((signs n - 1) - i) < signs n) (k : Nat) (hk : 300 ≤ k) : impl_AreOpposite.f k n l = some (!(bd.any (unop l)), true) := by
  have hi : impl_areOpposite.f k n l = some (!(bd.any (unop l))) := by
    unfold impl_areOpposite.f
    rw [h.areSigns, Option.bind_some, if_pos rfl, B.ibd k hk, Option.bind_some, if_pos (by rw [h.len]; exact hb)]
  have e1 : inRange n 1 4 = true := by unfold inRange; simp [h.n1, h.n4]
  unfold impl_AreOpposite.f impl_isReach.f
  rw [hi, Option.bind_some, Go.Proofs.Ytmdhclpkbopmdaa.Pm.in_f, e1]
  rfl
theorem bd_in (h : Lbl n l) (B : Brd n st bd M) : ∀ i ∈ bd, (0 ≤ i ∧ i < signs n) ∧ 0 ≤ wrap64 ((signs n - 1) - i) ∧ wrap64 ((signs n - 1) - i) < signs n := by
  obtain ⟨b2, h1, h2⟩ := bd_of h.n1 h.n4
  have e := (h1 300 (Nat.le_refl _)).1
  rw [B.ibd 300 (Nat.le_refl _)] at e
  cases e
  exact h2
theorem opp_odd (h : Lbl n l) (B : Brd n st bd M) (ho : anyR (OO l bd) 0 bd.length = false) (hop : (!(bd.any (unop l))) = true) : (Int.tmod (TV l bd).1 2 == 0) = false := by
  have hb := bd_in h B
  have h9 := B.sg9
  obtain ⟨q, hq⟩ := odd h B ho (fun i hi => by
    obtain ⟨h0, h1⟩ := hb i hi
    have h2 := unop_f h h0 h1 h9
    have h3 : unop l i = false := by
      simp only [Bool.not_eq_true', List.any_eq_false] at hop
      have := hop i hi
      simpa using this
    rw [h3] at h2
    simpa using h2.symm)
  rw [TV_doors h B ho, hq]
  simp only [beq_eq_false_iff_ne, ne_eq]
  intro h0
  have := Int.emod_emod_of_dvd (2 * q + 1) (Int.dvd_refl 2)
  have h2 := Int.tmod_eq_emod (a := 2 * q + 1) (b := 2)
  rw [h2] at h0
  split at h0 <;> omega

/-- The sum of the doors. -/
def lsum (f : List Int → Int) : List (List Int) → Int
  | [] => 0
  | x :: t => f x + lsum f t
theorem lsum_filter (f : List Int → Int) (p : List Int → Bool) (xs : List (List Int)) : lsum f (xs.filter p) = lsum (fun x => if p x then f x else 0) xs := by
  induction xs with
  | nil => rfl
  | cons x t ih =>
    rw [List.filter_cons]
    by_cases h : p x = true
    · rw [if_pos h, lsum, lsum, if_pos h, ih]
    · rw [if_neg h, lsum, if_neg h, ih, Int.zero_add]
theorem lsum_drop (f : List Int → Int) (g : Nat → Int) (d : Nat) : ∀ i, i + d = st.length → (∀ t : Nat, t < st.length → f (rd_L3 st t) = g t) → lsum f (st.drop i) = sumR g i d := by
  induction d with
  | zero =>
    intro i hi _
    rw [List.drop_of_length_le (by omega)]
    rfl
  | succ d ih =>
    intro i hi h
    have hil : i < st.length := by omega
    rw [List.drop_eq_getElem_cons hil, lsum, sumR, ih (i + 1) (by omega) h, ← h i hil]
    congr 2
    unfold rd_L3
    rw [Int.toNat_natCast, List.getD_eq_getElem?_getD, List.getElem?_eq_getElem hil]
    rfl
def dif (l x : List Int) : Int := rd l (rd x 1) - rd l (rd x 0)
theorem dif_two (l : List Int) (p q : Int) : dif l [p, q] = rd l q - rd l p := rfl
theorem dropD_two (l : List Int) (p q : Int) : (!(dropD l [p, q])) = sdoor (rd l p) (rd l q) := by
  unfold dropD
  rw [Bool.not_not]
  rfl
theorem doors_sum (h : Lbl n l) (B : Brd n st bd M) : lsum (dif l) (st.filter fun x => !(dropD l x)) = sumR (GG l bd) 0 bd.length := by
  rw [lsum_filter]
  have := lsum_drop (st := st) (fun x => if (!(dropD l x)) then dif l x else 0) (GG l bd) bd.length 0 (by rw [B.slen]; omega) (fun t ht => by
    obtain ⟨r1, _, _, _⟩ := B.row t (by rw [← B.slen]; exact ht)
    rw [r1, dropD_two, dif_two]
    rfl)
  rwa [List.drop_zero] at this
theorem stepIn_two {l : List Int} {p q : Int} (h4 : 0 ≤ p ∧ p < (l.length : Int)) (h6 : 0 ≤ q ∧ q < (l.length : Int)) : stepIn l [p, q] := ⟨rfl, h4, h6⟩
theorem drop_in (h : Lbl n l) (B : Brd n st bd M) : 0 < st.length ∧ ∀ x ∈ st, stepIn l x := by
  refine ⟨by rw [B.slen, B.len]; have := B.m1; omega, fun x hx => ?_⟩
  obtain ⟨i, hi, rfl⟩ := List.mem_iff_getElem.mp hx
  obtain ⟨r1, _, r4, r6⟩ := B.row i (by rw [← B.slen]; exact hi)
  have e : rd_L3 st i = st[i] := by
    unfold rd_L3
    rw [Int.toNat_natCast, List.getD_eq_getElem?_getD, List.getElem?_eq_getElem hi]
    rfl
  rw [e] at r1
  rw [r1]
  rw [← h.len] at r4 r6
  exact stepIn_two r4 r6
theorem dif_le (h : Lbl n l) {x : List Int} (hx : stepIn l x) : -4 ≤ dif l x ∧ dif l x ≤ 4 ∧ wrap64 (dif l x) = dif l x := by
  obtain ⟨_, h0, h1⟩ := hx
  rw [h.len] at h0 h1
  have s0 := h.at_ _ h0.1 h0.2
  have s1 := h.at_ _ h1.1 h1.2
  unfold dif
  rcases s0 with e0 | e0 | e0 | e0 <;> rcases s1 with e1 | e1 | e1 | e1 <;> rw [e0, e1] <;> decide +kernel
theorem wi1 (i : Nat) (h : i ≤ 1000) : wrap64 ((i : Int) + 1) = ((i + 1 : Nat) : Int) := by rw [wr (by omega) (by omega)]; omega
theorem lsum_snoc (f : List Int → Int) (x : List Int) : ∀ xs : List (List Int), lsum f (xs ++ [x]) = lsum f xs + f x
  | [] => by simp [lsum]
  | y :: t => by rw [List.cons_append, lsum, lsum, lsum_snoc f x t, Int.add_assoc]
theorem tsum (h : Lbl n l) (ds : List (List Int)) (hds : ds.length ≤ 80) (hin : ∀ x ∈ ds, stepIn l x) : ∀ m : Nat, m ≤ ds.length → turnsSum l ds m = lsum (dif l) (ds.take m) ∧ -(4 * (m : Int)) ≤ turnsSum l ds m ∧ turnsSum l ds m ≤ 4 * (m : Int) := by
  intro m
  induction m with
  | zero => intro _; exact ⟨rfl, by simp [turnsSum], by simp [turnsSum]⟩
  | succ m ih =>
    intro hm
    have hil : m < ds.length := by omega
    obtain ⟨i1, i2, i3⟩ := ih (by omega)
    have hx := dif_le h (hin _ (List.getElem_mem hil))
    have er : rd_L3 ds (m : Int) = ds[m] := by
      unfold rd_L3
      rw [Int.toNat_natCast, List.getD_eq_getElem?_getD, List.getElem?_eq_getElem hil]
      rfl
    have et : ds.take (m + 1) = ds.take m ++ [ds[m]] := by rw [List.take_add_one, List.getElem?_eq_getElem hil]; rfl
    rw [et, lsum_snoc, ← i1, turnsSum, er]
    generalize ds[m] = x at hx
    obtain ⟨d1, d2, d3⟩ := hx
    have hd : rd l (rd x 1) - rd l (rd x 0) = dif l x := rfl
    rw [hd, d3]
    clear d3 hd et er i1 ih
    generalize dif l x = y at d1 d2
    generalize turnsSum l ds m = acc at i2 i3
    have hwy : wrap64 (acc + y) = acc + y := wr (by omega) (by omega)
    rw [hwy]
    clear hwy
    exact ⟨rfl, by omega, by omega⟩
theorem doors_f (h : Lbl n l) (B : Brd n st bd M) (k : Nat) (hk : 300 ≤ k) : impl_SquareDoors.f k n l = some ((st.filter fun x => !(dropD l x)), true) := by
  unfold impl_SquareDoors.f impl_squareDoors.f
  rw [h.areSigns, Option.bind_some, if_pos rfl, B.steps k hk, Option.bind_some, if_pos (drop_in h B), Option.bind_some]
theorem TV_no (ho : anyR (OO l bd) 0 bd.length = true) : (TV l bd).2 = false := by unfold TV; rw [if_pos ho]
theorem doors_len (B : Brd n st bd M) (p : List Int → Bool) : (st.filter p).length ≤ 80 := by
  have h1 := List.length_filter_le p st
  have h2 := B.slen
  have h3 := B.len
  have h4 := B.m40
  clear B
  omega
theorem TV_yes (ho : (TV l bd).2 = true) : anyR (OO l bd) 0 bd.length = false := by
  cases hh : anyR (OO l bd) 0 bd.length with
  | false => rfl
  | true => rw [TV_no hh] at ho; cases ho
theorem sum_ok (h : Lbl n l) (B : Brd n st bd M) (ho : (TV l bd).2 = true) : turnsSum l (st.filter fun x => !(dropD l x)) (st.filter fun x => !(dropD l x)).length = (TV l bd).1 := by
  have ho' := TV_yes ho
  have hb := doors_len B (fun x => !(dropD l x))
  have hin := drop_in h B
  have := (tsum h (st.filter fun x => !(dropD l x)) hb (fun x hx => hin.2 x (List.mem_filter.mp hx).1) _ (Nat.le_refl _)).1
  rw [this, List.take_length, doors_sum h B, TV_doors h B ho']
end
end TurnsAreOdd

theorem FnTurnsAreOdd : laws_FnTurnsAreOdd.Pure := by
  intro l0 h0
  obtain ⟨K0, ⟨n, lab, c1, c2⟩, hl25, hd⟩ := opposite_tot (bytes_of h0)
  simp only at hl25 hd
  obtain ⟨K, hK⟩ : ∃ K, K0 + 500 ≤ K := ⟨_, Nat.le_refl _⟩
  have hdr : spec_DrawSquareTurns.f K l0 = some (n, lab) := by
    unfold spec_DrawSquareTurns.f spec_DrawAreOpposite.f
    rw [hd K (by omega), Option.bind_some, Option.bind_some]
  have hm : lab.length ≤ 1099511627776 := by omega
  obtain ⟨b, g1, g2, g3⟩ := opLabels_f n lab hm K (by omega)
  refine ⟨K, n, lab, hdr, ?_⟩
  cases b with
  | false =>
    refine Or.inl ⟨?_, ?_, ?_, ?_, ?_, ?_, ?_⟩
    · unfold impl_SquareTurns.f; rw [g2]; rfl
    · unfold spec_SquareTurns.f; rw [g1]; rfl
    · unfold impl_NegateLabels.f mapF; rw [g2]; rfl
    · unfold spec_NegateLabels.f; rw [g1]; rfl
    · unfold impl_AddTurn.f mapF; rw [g2]; rfl
    · unfold spec_AddTurn.f; rw [g1]; rfl
    · exact same_f [] (by simp) K (by simp; omega)
  | true =>
    obtain ⟨⟨n1, n4⟩, hlen, hsg⟩ := g3 rfl
    have L : Lbl n lab := ⟨n1, n4, hlen, hsg⟩
    obtain ⟨st, bd, M, B⟩ := brd_of n1 n4
    have hb := TurnsAreOdd.bd_in L B
    refine Or.inr ⟨(TV lab bd).1, (TV lab bd).2, !(bd.any (unop lab)), lab.map (fun x => wrap64 (-x)), lab.map Given.turn, st.filter fun x => !(dropD lab x), ?_⟩
    exact {
      it := turns_f L B K (by omega)
      st := by
        have hb : bd.length < 100 := by have := B.len; have := B.m40; omega
        obtain ⟨v, hv⟩ := loop (n := n) (st := st) L.len (fun i i0 i1 => L.at_ i i0 (by rw [← L.len]; exact i1)) hb (by have := B.len; have := B.m1; omega) B.slen B.row bd.length 0 0 (by omega) (by omega) (by omega)
        obtain ⟨v1, v2⟩ := hv K (by omega)
        have v3 := turns_l0 L B bd.length 0 0 (by omega) (by omega) (by omega) K (by omega)
        rw [Int.zero_add] at v3
        have v4 := v2.symm.trans v3
        unfold spec_SquareTurns.f
        rw [g1, Option.bind_some, if_pos rfl, B.sbd K (by omega), Option.bind_some]
        exact v1.trans v4
      ng := by unfold impl_NegateLabels.f mapF; rw [g2]; rfl
      sn := by
        unfold spec_NegateLabels.f
        rw [g1, Option.bind_some, if_pos rfl]
        exact neg_l0 lab hm lab.length K 0 (by omega) (by omega) (by omega)
      ad := by unfold impl_AddTurn.f mapF; rw [g2]; rfl
      sa := by
        unfold spec_AddTurn.f
        rw [g1, Option.bind_some, if_pos rfl]
        exact turn_l0 lab hm hsg lab.length K 0 (by omega) (by omega) (by omega)
      uo := same_f (lab.map fun x => wrap64 (-x)) (by rw [List.length_map]; omega) K (by rw [List.length_map]; omega)
      un := same_f (lab.map Given.turn) (by rw [List.length_map]; omega) K (by rw [List.length_map]; omega)
      ul := same_f lab (by omega) K (by omega)
      nn := by
        unfold impl_NegateLabels.f mapF
        rw [L.neg.areSigns, Option.bind_some, if_pos rfl, neg_neg L]
      aa := by
        unfold impl_AddTurn.f mapF
        rw [L.turn.areSigns, Option.bind_some, if_pos rfl, turn_turn L]
      tO := by
        have e3 := turns_f L.neg B K (by omega)
        rw [TV_neg L B] at e3
        exact e3
      tN := by
        have e4 := turns_f L.turn B K (by omega)
        rw [TV_turn L B] at e4
        exact e4
      aL := TurnsAreOdd.opp_f L B hb K (by omega)
      aN := by
        have e6 := TurnsAreOdd.opp_f L.turn B hb K (by omega)
        rw [TurnsAreOdd.any_turn L B hb] at e6
        exact e6
      odd := fun ho hop => TurnsAreOdd.opp_odd L B (TurnsAreOdd.TV_yes ho) hop
      dd := fun _ => TurnsAreOdd.doors_f L B K (by omega)
      din := fun _ x hx => (TurnsAreOdd.drop_in L B).2 x (List.mem_filter.mp hx).1
      dle := fun _ => TurnsAreOdd.doors_len B _
      sum := fun ho => TurnsAreOdd.sum_ok L B ho }
end Go.Proofs.Ytmdhclpkbopmdaa.Pure
