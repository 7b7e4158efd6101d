/- Plain lemmas: the reference's and the program's tests of ranges, sides and labels say the same, for all numbers and lists shorter than 2^40. -/
import Derived.Test.YtmfocekebenniaaDoorPz
import Derived.Test.YtmfocekebenniaaDoorGa
import Derived.Test.YtmfocekebenniaaDoorQx1
import Derived.Test.YtmfocekebenniaaDoorQx4
namespace Go.Proofs.YtmfocekebenniaaDoor.Pm
open Go.RowKit Go.Proofs.YtmfocekebenniaaDoor.Q Go.Proofs.YtmfocekebenniaaDoor.Given Go.Proofs.YtmfocekebenniaaDoor.Pz Go.Proofs.YtmfocekebenniaaDoorW.PrintWords Go.Proofs.YtmfocekebenniaaDoorW.PrintLast

theorem l1In_f (a b c : Int) : spec_l1In.f a b c = some (inRange a b c) := by
  unfold spec_l1In.f inRange
  by_cases h : b ≤ a <;> simp [h]
theorem in_f (a b c : Int) : impl_in.f a b c = some (inRange a b c) := by
  unfold impl_in.f inRange
  by_cases h : b ≤ a <;> simp [h]
theorem meSide_f (a : Int) : spec_meSide.f a = some (inRange a 1 8) := by simp [spec_meSide.f, l1In_f]
theorem isSide_f (a : Int) : impl_isSide.f a = some (inRange a 1 8) := by simp [impl_isSide.f, in_f]

theorem l1All_l0 (l : List Int) (lo hi : Int) (hm : l.length ≤ 1099511627776) (d : Nat) : ∀ (k i : Nat), l.length - i = d → i ≤ l.length → d < k →
    spec_l1All.l0 k lo hi l (l.length : Int) (i : Int) = some ((l.drop i).all fun x => inRange x lo hi) := by
  induction d with
  | zero =>
    intro k i hd hi' hk
    obtain ⟨k, rfl⟩ : ∃ m, k = m + 1 := ⟨k - 1, by omega⟩
    obtain rfl : i = l.length := by omega
    simp only [spec_l1All.l0]
    rw [if_neg (by omega), List.drop_of_length_le (Nat.le_refl _)]
    rfl
  | succ d ih =>
    intro k i hd hi' hk
    obtain ⟨k, rfl⟩ : ∃ m, k = m + 1 := ⟨k - 1, by omega⟩
    have hlt : i < l.length := by omega
    have w2 : wrap64 ((i : Int) + 1) = ((i + 1 : Nat) : Int) := by rw [wr (by omega) (by omega)]; omega
    have ea : l.drop i = l.getD i 0 :: l.drop (i + 1) := by
      rw [List.drop_eq_getElem_cons hlt]; simp [List.getD_eq_getElem?_getD, List.getElem?_eq_getElem hlt]
    simp only [spec_l1All.l0]
    rw [if_pos (by omega), if_pos (by omega), if_pos (by omega), rd_nat, w2, l1In_f, Option.bind_some, ih k (i + 1) (by omega) (by omega) (by omega), ea, List.all_cons]
    cases inRange (l.getD i 0) lo hi <;> simp

theorem l1All_f (l : List Int) (lo hi : Int) (hm : l.length ≤ 1099511627776) (k : Nat) (hk : l.length < k) : spec_l1All.f k l lo hi = some (l.all fun x => inRange x lo hi) := by
  have := l1All_l0 l lo hi hm l.length k 0 (by omega) (by omega) hk
  simpa [spec_l1All.f] using this
theorem many_f (a : Int) : impl_many.f a = spec_meCount.f a := rfl

/-- Is a list labels: both say the same. -/
theorem meLabels_f (a : Int) (l : List Int) (hm : l.length ≤ 1099511627776) (k : Nat) (hk : l.length < k) : ∃ b, spec_meLabels.f k a l = some b ∧ impl_areLabels.f a l = some b ∧ (inRange a 1 8 = false → b = false) := by
  refine ⟨inRange a 1 8 && (((l.length : Int) == wrap64 (Int.tdiv (wrap64 ((wrap64 (a + 1)) * (wrap64 (a + 2)))) 2)) && l.all fun x => inRange x 0 2), ?_, ?_, ?_⟩
  · unfold spec_meLabels.f spec_meCount.f
    rw [meSide_f, l1All_f l 0 2 hm k hk]
    simp only [Option.bind_some]
    cases inRange a 1 8
    · simp
    · by_cases c : (l.length : Int) = wrap64 (Int.tdiv (wrap64 ((wrap64 (a + 1)) * (wrap64 (a + 2)))) 2)
      · simp [c]
      · simp [c]
  · unfold impl_areLabels.f impl_many.f
    rw [isSide_f]
    simp
  · intro h; simp [h]
end Go.Proofs.YtmfocekebenniaaDoor.Pm
