/- Plain lemmas on the law's own helpers (toIntS, eqIntS, markIntS, heldIntS), for all lists shorter than 2^40. -/
import Derived.Test.YtmfocekebenniaaDoorQx1
namespace Go.Proofs.YtmfocekebenniaaDoor.Pz
open Go.RowKit Go.Proofs.YtmfocekebenniaaDoor.Q Go.Proofs.YtmfocekebenniaaDoorW.PrintWords Go.Proofs.YtmfocekebenniaaDoorW.PrintLast

theorem wr {x : Int} (h0 : -9223372036854775808 ≤ x) (h1 : x ≤ 9223372036854775807) : wrap64 x = x := by unfold wrap64; omega

theorem rd_nat (l : List Int) (i : Nat) : rd l (i : Int) = l.getD i 0 := by simp [rd]

theorem eqIntS_l0 (a b : List Int) (hab : a.length = b.length) (hm : a.length ≤ 1099511627776) (d : Nat) : ∀ (k i : Nat), a.length - i = d → i ≤ a.length → d < k →
    laws_eqIntS.l0 k a b (i : Int) = some (decide (a.drop i = b.drop i)) := by
  induction d with
  | zero =>
    intro k i hd hi hk
    obtain ⟨k, rfl⟩ : ∃ m, k = m + 1 := ⟨k - 1, by omega⟩
    obtain rfl : i = a.length := by omega
    simp only [laws_eqIntS.l0]
    rw [if_neg (by omega), List.drop_of_length_le (Nat.le_refl _), List.drop_of_length_le (by omega)]
    rfl
  | succ d ih =>
    intro k i hd hi hk
    obtain ⟨k, rfl⟩ : ∃ m, k = m + 1 := ⟨k - 1, by omega⟩
    have hlt : i < a.length := by omega
    have hlt' : i < b.length := by omega
    simp only [laws_eqIntS.l0]
    rw [if_pos (by omega), if_pos (by omega), if_pos (by omega), rd_nat, rd_nat, wr (by omega) (by omega)]
    have h := ih k (i + 1) (by omega) (by omega) (by omega)
    have ea : a.drop i = a.getD i 0 :: a.drop (i + 1) := by
      rw [List.drop_eq_getElem_cons hlt]; simp [List.getD_eq_getElem?_getD, List.getElem?_eq_getElem hlt]
    have eb : b.drop i = b.getD i 0 :: b.drop (i + 1) := by
      rw [List.drop_eq_getElem_cons hlt']; simp [List.getD_eq_getElem?_getD, List.getElem?_eq_getElem hlt']
    rw [ea, eb]
    by_cases c : a.getD i 0 = b.getD i 0
    · rw [if_pos c, show ((i : Int) + 1) = ((i + 1 : Nat) : Int) from by omega, h, c]; simp
    · rw [if_neg c]; simp only [List.cons.injEq, c, false_and, decide_false]

theorem eqIntS_f (a b : List Int) (hm : a.length ≤ 1099511627776) (k : Nat) (hk : a.length < k) : laws_eqIntS.f k a b = some (decide (a = b)) := by
  unfold laws_eqIntS.f
  by_cases c : (a.length : Int) = (b.length : Int)
  · rw [if_pos c]
    have := eqIntS_l0 a b (by omega) hm a.length k 0 (by omega) (by omega) hk
    simpa using this
  · rw [if_neg c]
    have : ¬ a = b := fun h => c (by rw [h])
    simp [this]

/-- The numbers x, x + 1, .., n of them. -/
def marks (x : Int) : Nat → List Int
  | 0 => []
  | n + 1 => x :: marks (x + 1) n
theorem marks_length (x : Int) (n : Nat) : (marks x n).length = n := by
  induction n generalizing x with
  | zero => rfl
  | succ n ih => simp [marks, ih]

theorem markIntS_l0 (l : List Int) (d : Nat) : ∀ (k i : Nat) (x : Int) (p : List Int), p.length = i → l.length = d → d < k → 0 ≤ x → x + d + d + i ≤ 9223372036854775000 →
    laws_markIntS.l0 k (p ++ l) x (i : Int) = some (x + d, p ++ marks x d) := by
  induction d generalizing l with
  | zero =>
    intro k i x p hp hl hk h0 h1
    obtain ⟨k, rfl⟩ : ∃ m, k = m + 1 := ⟨k - 1, by omega⟩
    obtain rfl : l = [] := List.length_eq_zero_iff.mp hl
    simp only [laws_markIntS.l0]
    rw [if_neg (by simp [hp])]
    simp [marks]
  | succ d ih =>
    intro k i x p hp hl hk h0 h1
    obtain ⟨k, rfl⟩ : ∃ m, k = m + 1 := ⟨k - 1, by omega⟩
    obtain ⟨y, l, rfl⟩ : ∃ y t, l = y :: t := by cases l with | nil => simp at hl | cons y t => exact ⟨y, t, rfl⟩
    have hl' : l.length = d := by simpa using hl
    have c1 : (i : Int) < ((p ++ y :: l).length : Int) := by rw [List.length_append, List.length_cons]; omega
    have w1 : wrap64 (x + 1) = x + 1 := wr (by omega) (by omega)
    have w2 : wrap64 ((i : Int) + 1) = (i : Int) + 1 := wr (by omega) (by omega)
    simp only [laws_markIntS.l0]
    rw [if_pos c1, if_pos (by omega), w1, w2]
    have h := ih l k (i + 1) (x + 1) (p ++ [x]) (by simp [hp]) hl' (by omega) (by omega) (by omega)
    rw [show ((i : Int)).toNat = i from by simp, List.set_append_right _ _ (by omega), hp, Nat.sub_self, List.set_cons_zero]
    rw [show p ++ x :: l = (p ++ [x]) ++ l from by simp, show ((i : Int) + 1) = ((i + 1 : Nat) : Int) from by omega, h]
    simp [marks]
    omega

theorem heldIntS_l0 (d : Nat) : ∀ (k i : Nat) (x : Int) (p : List Int), p.length = i → d < k → 0 ≤ x → x + d + d + i ≤ 9223372036854775000 →
    laws_heldIntS.l0 k (p ++ marks x d) x (i : Int) = some (x + d) := by
  induction d with
  | zero =>
    intro k i x p hp hk h0 h1
    obtain ⟨k, rfl⟩ : ∃ m, k = m + 1 := ⟨k - 1, by omega⟩
    have c1 : ¬ (i : Int) < ((p ++ marks x 0).length : Int) := by simp [marks, hp]
    unfold laws_heldIntS.l0
    refine (if_neg c1).trans ?_
    simp
  | succ d ih =>
    intro k i x p hp hk h0 h1
    obtain ⟨k, rfl⟩ : ∃ m, k = m + 1 := ⟨k - 1, by omega⟩
    have e : rd (p ++ marks x (d + 1)) (i : Int) = x := by
      rw [rd_nat, List.getD_eq_getElem?_getD, List.getElem?_append_right (by omega), hp]; simp [marks]
    have c1 : (i : Int) < ((p ++ marks x (d + 1)).length : Int) := by rw [List.length_append, marks_length]; omega
    have w1 : wrap64 (x + 1) = x + 1 := wr (by omega) (by omega)
    have w2 : wrap64 ((i : Int) + 1) = (i : Int) + 1 := wr (by omega) (by omega)
    have h := ih k (i + 1) (x + 1) (p ++ [x]) (by simp [hp]) (by omega) (by omega) (by omega)
    unfold laws_heldIntS.l0
    refine (if_pos c1).trans ((if_pos (by omega)).trans ((if_pos e).trans ?_))
    rw [w1, w2, show p ++ marks x (d + 1) = (p ++ [x]) ++ marks (x + 1) d from by simp [marks], show ((i : Int) + 1) = ((i + 1 : Nat) : Int) from by omega, h]
    congr 1; omega

theorem markIntS_f (l : List Int) (x : Int) (k : Nat) (hk : l.length < k) (h0 : 0 ≤ x) (h1 : x + l.length + l.length ≤ 9223372036854775000) :
    laws_markIntS.f k l x = some (x + l.length, marks x l.length) := by
  have := markIntS_l0 l l.length k 0 x [] rfl rfl hk h0 (by omega)
  simpa [laws_markIntS.f] using this
theorem heldIntS_f (n : Nat) (x : Int) (k : Nat) (hk : n < k) (h0 : 0 ≤ x) (h1 : x + n + n ≤ 9223372036854775000) :
    laws_heldIntS.f k (marks x n) x = some (x + n) := by
  have := heldIntS_l0 n k 0 x [] rfl hk h0 (by omega)
  simpa [laws_heldIntS.f] using this
end Go.Proofs.YtmfocekebenniaaDoor.Pz
