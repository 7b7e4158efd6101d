/- Plain: full boards, and the player of a place of the board with its rim. -/
import Derived.Test.YtmfocekebenniaaPh
import Derived.Test.YtmfocekebenniaaHe
import Derived.Test.YtmfocekebenniaaQx7
import Derived.Test.YtmfocekebenniaaQx2
import Derived.Test.YtmfocekebenniaaQx5
namespace Go.Proofs.Ytmfocekebenniaa.Ng
open Go.RowKit Go.Proofs.Ytmfocekebenniaa.Q Go.Proofs.Ytmfocekebenniaa.Given Go.Proofs.Ytmfocekebenniaa.Pz Go.Proofs.Ytmfocekebenniaa.Pm Go.Proofs.Ytmfocekebenniaa.Ph Go.Proofs.YtmfocekebenniaaW.PrintWords Go.Proofs.YtmfocekebenniaaW.PrintLast
set_option linter.unusedVariables false
set_option linter.unusedSimpArgs false
theorem index_l0 (l : List Int) (x : Int) (hm : l.length ≤ 1099511627776) (d : Nat) : ∀ (i k : Nat), i + d = l.length → d < k → (∀ j : Nat, j < i → rd l j ≠ x) →
    ∃ v, slices_Index_int_int.l0 k l x (l.length : Int) (i : Int) = some v ∧ ((0 ≤ v ∧ x ∈ l) ∨ (v < 0 ∧ ∀ j : Nat, j < l.length → rd l j ≠ x)) := by
  induction d with
  | zero =>
    intro i k hi hk hj
    obtain ⟨k, rfl⟩ : ∃ m, k = m + 1 := ⟨k - 1, by omega⟩
    refine ⟨-1, ?_, .inr ⟨by omega, fun j hj2 => hj j (by omega)⟩⟩
    rw [slices_Index_int_int.l0, if_neg (by omega)]
  | succ d ih =>
    intro i k hi hk hj
    obtain ⟨k, rfl⟩ : ∃ m, k = m + 1 := ⟨k - 1, by omega⟩
    have hil : i < l.length := by omega
    by_cases hx : x = rd l (i : Nat)
    · refine ⟨i, ?_, .inl ⟨by omega, ?_⟩⟩
      · rw [slices_Index_int_int.l0, if_pos (by omega), if_pos (by omega), if_pos (by omega), if_pos hx]
      · rw [hx]; unfold rd
        rw [List.getD_eq_getElem?_getD, Int.toNat_natCast, List.getElem?_eq_getElem hil]
        exact List.getElem_mem hil
    · obtain ⟨v, h1, h2⟩ := ih (i + 1) k (by omega) (by omega) (fun j hj2 => by
        by_cases e : j = i
        · subst e; exact fun h => hx h.symm
        · exact hj j (by omega))
      refine ⟨v, ?_, h2⟩
      rw [slices_Index_int_int.l0, if_pos (by omega), if_pos (by omega), if_pos (by omega), if_neg hx, wr (by omega) (by omega)]
      exact_mod_cast h1
theorem contains_f (l : List Int) (x : Int) (hm : l.length ≤ 1099511627776) (k : Nat) (hk : l.length < k) : slices_Contains_int_int.f k l x = some (l.contains x) := by
  unfold slices_Contains_int_int.f slices_Index_int_int.f
  obtain ⟨v, h1, h2⟩ := index_l0 l x hm l.length 0 k (by omega) hk (fun j hj => by omega)
  rw [show ((0 : Nat) : Int) = 0 from rfl] at h1
  rw [h1]
  simp only [Option.bind_some]
  rcases h2 with ⟨h2, h3⟩ | ⟨h2, h3⟩
  · simp [h2, h3]
  · have : x ∉ l := by
      intro hx
      obtain ⟨j, hj, e⟩ := List.mem_iff_getElem.mp hx
      have := h3 j hj
      unfold rd at this
      rw [List.getD_eq_getElem?_getD, Int.toNat_natCast, List.getElem?_eq_getElem hj] at this
      exact this e
    simp [this]
    omega
theorem full_iff (l : List Int) (hv : ∀ x ∈ l, 0 ≤ x ∧ x ≤ 2) : (l.all fun x => inRange x 1 2) = !(l.contains 0) := by
  induction l with
  | nil => rfl
  | cons x t ih =>
    have h1 := hv x (by simp)
    have h2 := ih (fun y hy => hv y (by simp [hy]))
    rw [List.all_cons, h2, List.contains_cons, Bool.not_or]
    congr 1
    unfold inRange
    obtain rfl | rfl | rfl : x = 0 ∨ x = 1 ∨ x = 2 := by omega
    · rfl
    · rfl
    · rfl
/-- What is known of a full board. -/
def FullP (a c : Int) (l : List Int) : Prop := ((1 ≤ a ∧ a ≤ 30) ∧ (1 ≤ c ∧ c ≤ 30)) ∧ (l.length : Int) = a * c ∧ l.length ≤ 30 ∧ ∀ i : Nat, i < l.length → rd l i = 1 ∨ rd l i = 2
/-- Is a board full: both say the same. -/
theorem full_f (a c : Int) (l : List Int) (hm : l.length ≤ 1099511627776) : ∃ b, (∀ k, l.length + 1 ≤ k → spec_hxFull.f k a c l = some b ∧ impl_isFullBoard.f k a c l = some b) ∧ (b = true → FullP a c l) := by
  obtain ⟨bb, _, h2, h3⟩ := board_f a c l hm (l.length + 1) (by omega)
  have hg : ∀ k, l.length + 1 ≤ k → spec_hxGood.f k a c l = some bb := fun k hk => by
    obtain ⟨b2, e1, e2, _⟩ := board_f a c l hm k (by omega)
    rw [e1]; rw [h2] at e2; exact e2.symm
  cases bb with
  | false =>
    refine ⟨false, fun k hk => ⟨?_, ?_⟩, fun h => by cases h⟩
    · unfold spec_hxFull.f; rw [hg k hk]; rfl
    · unfold impl_isFullBoard.f; rw [h2]; rfl
  | true =>
    obtain ⟨a1, a2, a3⟩ := h3 rfl
    refine ⟨!(l.contains 0), fun k hk => ⟨?_, ?_⟩, fun h => ?_⟩
    · unfold spec_hxFull.f
      rw [hg k hk, l1All_f l 1 2 hm k (by omega), full_iff l a3]
      rfl
    · unfold impl_isFullBoard.f
      rw [h2, contains_f l 0 hm k (by omega)]
      rfl
    · obtain ⟨s1, s2, s3⟩ := shape_of a1
      have hmul : 0 ≤ a * c := Int.mul_nonneg (by omega) (by omega)
      have hmul2 : a * c ≤ 30 * 30 := Int.mul_le_mul s1.2 s2.2 (by omega) (by omega)
      rw [wr (by omega) (by omega)] at a2 s3
      refine ⟨⟨s1, s2⟩, a2, by omega, fun i hi => ?_⟩
      have he : rd l (i : Nat) = l[i] := by unfold rd; rw [List.getD_eq_getElem?_getD, Int.toNat_natCast, List.getElem?_eq_getElem hi]; rfl
      have h4 := a3 _ (List.getElem_mem hi)
      rw [← he] at h4
      have h0 : rd l (i : Nat) ≠ 0 := by
        intro h0
        rw [he] at h0
        have hm0 : (0 : Int) ∈ l := h0 ▸ List.getElem_mem hi
        have : l.contains 0 = true := by simpa using hm0
        rw [this] at h; cases h
      omega
theorem full_of {k : Nat} {a c : Int} {l : List Int} (h : impl_isFullBoard.f k a c l = some true) : FullP a c l := by
  have hl : l.length ≤ 1099511627776 := by
    unfold impl_isFullBoard.f impl_isBoard.f at h
    rw [isShape_f] at h
    simp only [Option.bind_some] at h
    cases hs : hshape a c with
    | false => rw [hs] at h; simp at h
    | true =>
      obtain ⟨s1, s2, s3⟩ := shape_of hs
      rw [hs] at h
      cases hb : ((l.length : Int) == wrap64 (a * c)) with
      | false => rw [hb] at h; simp at h
      | true =>
        have := eq_of_beq hb
        omega
  obtain ⟨b, h1, h2⟩ := full_f a c l hl
  have h3 := at_rounds (fun k => impl_isFullBoard.mono a c l k) (Nat.le_add_right k (l.length + 1)) h
  rw [(h1 _ (by omega)).2] at h3
  injection h3 with h3
  exact h2 h3
/-- Is a place of the player 1. -/
def ownL (C : Int) (l : List Int) (a b : Int) : Bool := decide (rd l (C * a + b) = 1)
theorem cell_lt {R C x y : Int} (h : 0 ≤ x ∧ x < R ∧ 0 ≤ y ∧ y < C) : 0 ≤ C * x + y ∧ C * x + y < R * C := by
  have h1 : 0 ≤ C * x := Int.mul_nonneg (by omega) (by omega)
  have h2 : C * x ≤ C * (R - 1) := Int.mul_le_mul_of_nonneg_left (by omega) (by omega)
  have h3 : C * (R - 1) = R * C - C := by rw [Int.mul_sub, Int.mul_one, Int.mul_comm]
  omega
theorem inRange_iff (x a b : Int) : inRange x a b = true ↔ a ≤ x ∧ x ≤ b := by unfold inRange; simp
theorem player_f {R C : Int} {l : List Int} (hF : FullP R C l) (a b : Int) (hh : Hw.has R C a b = true) : impl_rimmed_player.f R C l a b = some (if He.one R C (ownL C l) a b then 1 else 2) := by
  obtain ⟨⟨s1, s2⟩, hlen, hl30, hv⟩ := hF
  unfold Hw.has at hh
  rw [decide_eq_true_eq] at hh
  by_cases hin : 0 ≤ a ∧ a < R ∧ 0 ≤ b ∧ b < C
  · have hc := cell_lt hin
    have hm : 0 ≤ C * a := Int.mul_nonneg (by omega) (by omega)
    have e1 : impl_rimmed_inRim.f R C l a b = some false := by
      unfold impl_rimmed_inRim.f
      rw [in_f, in_f, wr (by omega) (by omega), wr (by omega) (by omega), (inRange_iff a 0 (R - 1)).mpr (by omega), (inRange_iff b 0 (C - 1)).mpr (by omega)]
      rfl
    have hw : wrap64 (wrap64 (C * a) + b) = C * a + b := by rw [wr (x := C * a) (by omega) (by omega), wr (by omega) (by omega)]
    obtain ⟨i, hi⟩ := Int.eq_ofNat_of_zero_le hc.1
    have hone : He.one R C (ownL C l) a b = decide (rd l (C * a + b) = 1) := He.one_in hin
    unfold impl_rimmed_player.f
    rw [e1, Option.bind_some, if_neg (by decide), hw, if_pos hc.1, if_pos (by omega), hone]
    rcases hv i (by omega) with h | h
    · rw [hi, h]; rfl
    · rw [hi, h]; rfl
  · have e1 : impl_rimmed_inRim.f R C l a b = some true := by
      unfold impl_rimmed_inRim.f
      rw [in_f, in_f, wr (x := R - 1) (by omega) (by omega), wr (x := C - 1) (by omega) (by omega)]
      simp only [Option.bind_some]
      cases h1 : inRange a 0 (R - 1) with
      | false => rfl
      | true =>
        cases h2 : inRange b 0 (C - 1) with
        | false => rfl
        | true =>
          rw [inRange_iff] at h1 h2
          omega
    have hone := He.one_rim (own := ownL C l) hin
    unfold impl_rimmed_player.f
    rw [e1, Option.bind_some, if_pos rfl]
    cases hq : He.one R C (ownL C l) a b with
    | true =>
      rcases hone.mp hq with ⟨h1, h2⟩ | ⟨h1, h2⟩
      · rw [if_pos h1, if_pos h2]; rfl
      · by_cases h3 : a = -1
        · omega
        · rw [if_neg h3, if_pos h1, if_pos (by omega)]; rfl
    | false =>
      have h5 : ¬ ((a = -1 ∧ b < C) ∨ (a = R ∧ 0 ≤ b)) := fun h => by rw [hone.mpr h] at hq; cases hq
      by_cases h1 : a = -1
      · rw [if_pos h1, if_neg (by omega)]
        by_cases h3 : a = R
        · omega
        · rw [if_neg h3]; rfl
      · rw [if_neg h1]
        by_cases h3 : a = R
        · rw [if_pos h3, if_neg (by omega)]; rfl
        · rw [if_neg h3]; rfl
end Go.Proofs.Ytmfocekebenniaa.Ng
