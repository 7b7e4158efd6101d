/- Plain: small facts on wrapped numbers and reads. Plain lemmas: the reference's and the program's tests of ranges, sides and labels say the same, for all numbers and lists shorter than 2^40. Plain lemmas on boards: the reference's and the program's tests say the same. -/
import Derived.Test.YtenaefpbjblmbaaQx0
import Derived.Test.YtenaefpbjblmbaaGa
import Derived.Test.YtenaefpbjblmbaaQx1
import Derived.Test.YtenaefpbjblmbaaQx2
import Derived.Test.YtenaefpbjblmbaaGn
import Derived.Test.YtenaefpbjblmbaaQx5
namespace Go.Proofs.Ytenaefpbjblmbaa.Pz
open Go.RowKit Go.Proofs.Ytenaefpbjblmbaa.Q Go.Proofs.YtenaefpbjblmbaaW.PrintWords Go.Proofs.YtenaefpbjblmbaaW.PrintLast

theorem wr {x : Int} (h0 : -9223372036854775808 ≤ x) (h1 : x ≤ 9223372036854775807) : wrap64 x = x := by unfold wrap64; omega

theorem rd_nat (l : List Int) (i : Nat) : rd l (i : Int) = l.getD i 0 := by simp [rd]
end Go.Proofs.Ytenaefpbjblmbaa.Pz

namespace Go.Proofs.Ytenaefpbjblmbaa.Pm
open Go.RowKit Go.Proofs.Ytenaefpbjblmbaa.Q Go.Proofs.Ytenaefpbjblmbaa.Given Go.Proofs.Ytenaefpbjblmbaa.Pz Go.Proofs.YtenaefpbjblmbaaW.PrintWords Go.Proofs.YtenaefpbjblmbaaW.PrintLast

theorem l1In_f (a b c : Int) : spec_l1In.f a b c = some (inRange a b c) := by
  unfold spec_l1In.f inRange
  by_cases h : b ≤ a <;> simp [h]
theorem in_f (a b c : Int) : impl_in.f a b c = some (inRange a b c) := by
  unfold impl_in.f inRange
  by_cases h : b ≤ a <;> simp [h]

theorem l1All_l0 (l : List Int) (lo hi : Int) (hm : l.length ≤ 1099511627776) (d : Nat) : ∀ (k i : Nat), l.length - i = d → i ≤ l.length → d < k →
    spec_l1All.l0 k lo hi l (l.length : Int) (i : Int) = some ((l.drop i).all fun x => inRange x lo hi) := by
  induction d with
  | zero =>
    intro k i hd hi' hk
    obtain ⟨k, rfl⟩ : ∃ m, k = m + 1 := ⟨k - 1, by omega⟩
    obtain rfl : i = l.length := by omega
    simp only [spec_l1All.l0]
    rw [if_neg (by omega), List.drop_of_length_le (Nat.le_refl _)]
    rfl
  | succ d ih =>
    intro k i hd hi' hk
    obtain ⟨k, rfl⟩ : ∃ m, k = m + 1 := ⟨k - 1, by omega⟩
    have hlt : i < l.length := by omega
    have w2 : wrap64 ((i : Int) + 1) = ((i + 1 : Nat) : Int) := by rw [wr (by omega) (by omega)]; omega
    have ea : l.drop i = l.getD i 0 :: l.drop (i + 1) := by
      rw [List.drop_eq_getElem_cons hlt]; simp [List.getD_eq_getElem?_getD, List.getElem?_eq_getElem hlt]
    simp only [spec_l1All.l0]
    rw [if_pos (by omega), if_pos (by omega), if_pos (by omega), rd_nat, w2, l1In_f, Option.bind_some, ih k (i + 1) (by omega) (by omega) (by omega), ea, List.all_cons]
    cases inRange (l.getD i 0) lo hi <;> simp

theorem l1All_f (l : List Int) (lo hi : Int) (hm : l.length ≤ 1099511627776) (k : Nat) (hk : l.length < k) : spec_l1All.f k l lo hi = some (l.all fun x => inRange x lo hi) := by
  have := l1All_l0 l lo hi hm l.length k 0 (by omega) (by omega) hk
  simpa [spec_l1All.f] using this

end Go.Proofs.Ytenaefpbjblmbaa.Pm

namespace Go.Proofs.Ytenaefpbjblmbaa.Ph
open Go.RowKit Go.Proofs.Ytenaefpbjblmbaa.Q Go.Proofs.Ytenaefpbjblmbaa.Given Go.Proofs.Ytenaefpbjblmbaa.Pz Go.Proofs.Ytenaefpbjblmbaa.Pm Go.Proofs.YtenaefpbjblmbaaW.PrintWords Go.Proofs.YtenaefpbjblmbaaW.PrintLast

def hshape (a b : Int) : Bool := if inRange a 1 30 = true then (if inRange b 1 30 = true then decide (wrap64 (a * b) ≤ 30) else false) else false
theorem hxSides_f (a b : Int) : spec_hxSides.f a b = some (hshape a b) := by
  unfold spec_hxSides.f hshape
  simp only [l1In_f, Option.bind_some]
  cases inRange a 1 30 <;> cases inRange b 1 30 <;> rfl
theorem isShape_f (a b : Int) : impl_isShape.f a b = some (hshape a b) := by
  unfold impl_isShape.f hshape
  simp only [in_f, Option.bind_some]
  cases inRange a 1 30 <;> cases inRange b 1 30 <;> rfl
theorem shape_of {a b : Int} (h : hshape a b = true) : (1 ≤ a ∧ a ≤ 30) ∧ (1 ≤ b ∧ b ≤ 30) ∧ wrap64 (a * b) ≤ 30 := by
  unfold hshape at h
  split at h
  · rename_i h1
    split at h
    · rename_i h2
      unfold inRange at h1 h2
      simp only [Bool.and_eq_true, decide_eq_true_eq] at h1 h2 h
      exact ⟨h1, h2, h⟩
    · simp at h
  · simp at h

/-- Is a list a board: both say the same. -/
theorem board_f (a c : Int) (l : List Int) (hm : l.length ≤ 1099511627776) (k : Nat) (hk : l.length < k) : ∃ b, spec_hxGood.f k a c l = some b ∧ impl_isBoard.f a c l = some b ∧ (b = true → hshape a c = true ∧ (l.length : Int) = wrap64 (a * c) ∧ ∀ x ∈ l, 0 ≤ x ∧ x ≤ 2) := by
  refine ⟨hshape a c && (((l.length : Int) == wrap64 (a * c)) && l.all fun x => inRange x 0 2), ?_, ?_, ?_⟩
  · unfold spec_hxGood.f
    rw [hxSides_f, l1All_f l 0 2 hm k hk]
    simp only [Option.bind_some]
    cases hshape a c
    · simp
    · by_cases h : (l.length : Int) = wrap64 (a * c)
      · simp [h]
      · simp [h]
  · unfold impl_isBoard.f
    rw [isShape_f]
    simp only [Option.bind_some]
    rw [List.all_eq_not_any_not]
  · intro h
    simp only [Bool.and_eq_true, beq_iff_eq, List.all_eq_true] at h
    refine ⟨h.1, h.2.1, fun x hx => ?_⟩
    have := h.2.2 x hx
    unfold inRange at this
    simpa using this
end Go.Proofs.Ytenaefpbjblmbaa.Ph
