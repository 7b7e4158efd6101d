/- Plain lemmas on the law's own helpers (toIntS, eqIntS, markIntS, heldIntS), for all lists shorter than 2^40. -/
import Derived.Test.YtmfocekebenniaaDoorQx2
import Derived.Test.YtmfocekebenniaaDoorQx1
namespace Go.Proofs.YtmfocekebenniaaDoor.Pz
open Go.RowKit Go.Proofs.YtmfocekebenniaaDoor.Q Go.Proofs.YtmfocekebenniaaDoorW.PrintWords Go.Proofs.YtmfocekebenniaaDoorW.PrintLast

theorem wr {x : Int} (h0 : -9223372036854775808 ≤ x) (h1 : x ≤ 9223372036854775807) : wrap64 x = x := by unfold wrap64; omega

theorem rd_nat (l : List Int) (i : Nat) : rd l (i : Int) = l.getD i 0 := by simp [rd]

theorem toIntS_l0 (l : List Int) (hm : l.length ≤ 1099511627776) (d : Nat) : ∀ (k i : Nat), l.length - i = d → i ≤ l.length → d < k →
    laws_toIntS.l0 k l (l.take i ++ List.replicate (l.length - i) 0) (i : Int) = some l := by
  induction d with
  | zero =>
    intro k i hd hi hk
    obtain ⟨k, rfl⟩ : ∃ m, k = m + 1 := ⟨k - 1, by omega⟩
    obtain rfl : i = l.length := by omega
    simp only [laws_toIntS.l0]
    rw [if_neg (by omega)]
    simp
  | succ d ih =>
    intro k i hd hi hk
    obtain ⟨k, rfl⟩ : ∃ m, k = m + 1 := ⟨k - 1, by omega⟩
    have hlt : i < l.length := by omega
    simp only [laws_toIntS.l0]
    rw [if_pos (by omega), if_pos (by omega), if_pos (by simp; omega), rd_nat, wr (by omega) (by omega)]
    have h := ih k (i + 1) (by omega) (by omega) (by omega)
    have e : (l.take i ++ List.replicate (l.length - i) 0).set i (l.getD i 0) = l.take (i + 1) ++ List.replicate (l.length - (i + 1)) 0 := by
      rw [List.set_append_right _ _ (by simp; omega), List.take_succ_eq_append_getElem hlt]
      have e2 : l.length - i = (l.length - (i + 1)) + 1 := by omega
      rw [e2, List.replicate_succ]
      simp only [List.length_take, Nat.min_eq_left (Nat.le_of_lt hlt), Nat.sub_self, List.set_cons_zero, List.getD_eq_getElem?_getD, List.getElem?_eq_getElem hlt, Option.getD_some, List.append_assoc, List.singleton_append]
    rw [show ((i : Int)).toNat = i from by simp, e]
    exact_mod_cast h

theorem toIntS_f (l : List Int) (hm : l.length ≤ 1099511627776) (k : Nat) (hk : l.length < k) : laws_toIntS.f k l = some l := by
  unfold laws_toIntS.f
  rw [if_pos (by omega), if_pos (by simp; omega)]
  have := toIntS_l0 l hm l.length k 0 (by omega) (by omega) hk
  simpa using this

theorem eqIntS_l0 (a b : List Int) (hab : a.length = b.length) (hm : a.length ≤ 1099511627776) (d : Nat) : ∀ (k i : Nat), a.length - i = d → i ≤ a.length → d < k →
    laws_eqIntS.l0 k a b (i : Int) = some (decide (a.drop i = b.drop i)) := by
  induction d with
  | zero =>
    intro k i hd hi hk
    obtain ⟨k, rfl⟩ : ∃ m, k = m + 1 := ⟨k - 1, by omega⟩
    obtain rfl : i = a.length := by omega
    simp only [laws_eqIntS.l0]
    rw [if_neg (by omega), List.drop_of_length_le (Nat.le_refl _), List.drop_of_length_le (by omega)]
    rfl
  | succ d ih =>
    intro k i hd hi hk
    obtain ⟨k, rfl⟩ : ∃ m, k = m + 1 := ⟨k - 1, by omega⟩
    have hlt : i < a.length := by omega
    have hlt' : i < b.length := by omega
    simp only [laws_eqIntS.l0]
    rw [if_pos (by omega), if_pos (by omega), if_pos (by omega), rd_nat, rd_nat, wr (by omega) (by omega)]
    have h := ih k (i + 1) (by omega) (by omega) (by omega)
    have ea : a.drop i = a.getD i 0 :: a.drop (i + 1) := by
      rw [List.drop_eq_getElem_cons hlt]; simp [List.getD_eq_getElem?_getD, List.getElem?_eq_getElem hlt]
    have eb : b.drop i = b.getD i 0 :: b.drop (i + 1) := by
      rw [List.drop_eq_getElem_cons hlt']; simp [List.getD_eq_getElem?_getD, List.getElem?_eq_getElem hlt']
    rw [ea, eb]
    by_cases c : a.getD i 0 = b.getD i 0
    · rw [if_pos c, show ((i : Int) + 1) = ((i + 1 : Nat) : Int) from by omega, h, c]; simp
    · rw [if_neg c]; simp only [List.cons.injEq, c, false_and, decide_false]

theorem eqIntS_f (a b : List Int) (hm : a.length ≤ 1099511627776) (k : Nat) (hk : a.length < k) : laws_eqIntS.f k a b = some (decide (a = b)) := by
  unfold laws_eqIntS.f
  by_cases c : (a.length : Int) = (b.length : Int)
  · rw [if_pos c]
    have := eqIntS_l0 a b (by omega) hm a.length k 0 (by omega) (by omega) hk
    simpa using this
  · rw [if_neg c]
    have : ¬ a = b := fun h => c (by rw [h])
    simp [this]

/-- The numbers x, x + 1, .., n of them. -/
def marks (x : Int) : Nat → List Int
  | 0 => []
  | n + 1 => x :: marks (x + 1) n
theorem marks_length (x : Int) (n : Nat) : (marks x n).length = n := by
  induction n generalizing x with
  | zero => rfl
  | succ n ih => simp [marks, ih]

end Go.Proofs.YtmfocekebenniaaDoor.Pz
