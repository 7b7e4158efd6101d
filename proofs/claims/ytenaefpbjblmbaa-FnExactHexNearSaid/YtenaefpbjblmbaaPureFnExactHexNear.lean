/- The law FnExactHexNear answers true for all ints: the program's HexNear and the reference's return the same, in memory of their own. No condition. -/
import Derived.Test.YtenaefpbjblmbaaQx6
import Derived.Test.YtenaefpbjblmbaaPm
import Derived.Test.YtenaefpbjblmbaaPa
import Derived.Test.YtenaefpbjblmbaaQx2
namespace Go.Proofs.Ytenaefpbjblmbaa.Pure
open Go.RowKit Go.Proofs.Ytenaefpbjblmbaa.Q Go.Proofs.Ytenaefpbjblmbaa.Given Go.Proofs.Ytenaefpbjblmbaa.Pz Go.Proofs.Ytenaefpbjblmbaa.Pm Go.Proofs.YtenaefpbjblmbaaW.PrintWords Go.Proofs.YtenaefpbjblmbaaW.PrintLast
set_option linter.unusedVariables false
set_option linter.unusedSimpArgs false

namespace HexNear
def hshape (a b : Int) : Bool := if inRange a 1 30 = true then (if inRange b 1 30 = true then decide (wrap64 (a * b) ≤ 30) else false) else false
theorem hxSides_f (a b : Int) : spec_hxSides.f a b = some (hshape a b) := by
  unfold spec_hxSides.f hshape
  simp only [l1In_f, Option.bind_some]
  cases inRange a 1 30 <;> cases inRange b 1 30 <;> rfl
theorem isShape_f (a b : Int) : impl_isShape.f a b = some (hshape a b) := by
  unfold impl_isShape.f hshape
  simp only [in_f, Option.bind_some]
  cases inRange a 1 30 <;> cases inRange b 1 30 <;> rfl
theorem shape_nat {a c : Int} (h : hshape a c = true) : ∃ r q : Nat, a = (r : Int) ∧ c = (q : Int) ∧ (1 ≤ r ∧ r ≤ 30) ∧ (1 ≤ q ∧ q ≤ 30) ∧ r * q ≤ 30 ∧ wrap64 (a * c) = ((r * q : Nat) : Int) := by
  unfold hshape inRange at h
  split at h
  · rename_i h1
    split at h
    · rename_i h2
      simp only [Bool.and_eq_true, decide_eq_true_eq] at h1 h2 h
      obtain ⟨r, rfl⟩ := Int.eq_ofNat_of_zero_le (show 0 ≤ a by omega)
      obtain ⟨q, rfl⟩ := Int.eq_ofNat_of_zero_le (show 0 ≤ c by omega)
      have hle : r * q ≤ 30 * 30 := Nat.mul_le_mul (by omega) (by omega)
      have hw : wrap64 ((r : Int) * (q : Int)) = ((r * q : Nat) : Int) := by
        rw [← Int.natCast_mul]; unfold wrap64; omega
      rw [hw] at h
      exact ⟨r, q, rfl, rfl, by omega, by omega, by omega, hw⟩
    · simp at h
  · simp at h
theorem same (a c i : Int) : ∃ (g : List Int × Bool), g.1.length ≤ 6 ∧ impl_HexNear.f a c i = some g ∧ ∀ k, 12 ≤ k → spec_HexNear.f k a c i = some g := by
  cases hs : hshape a c with
  | false =>
    refine ⟨([], false), by simp, ?_, fun k _ => ?_⟩
    · unfold impl_HexNear.f; rw [isShape_f, hs]; simp
    · unfold spec_HexNear.f; rw [hxSides_f, hs]; simp
  | true =>
    obtain ⟨r, q, rfl, rfl, h1, h2, h3, hw⟩ := shape_nat hs
    have hw2 : wrap64 (((r * q : Nat) : Int) - 1) = ((r * q : Nat) : Int) - 1 := by unfold wrap64; omega
    cases hi : inRange i 0 (((r * q : Nat) : Int) - 1) with
    | false =>
      refine ⟨([], false), by simp, ?_, fun k _ => ?_⟩
      · unfold impl_HexNear.f; rw [isShape_f, hs, hw, hw2, in_f, hi]; simp
      · unfold spec_HexNear.f; rw [hxSides_f, hs, hw, hw2, l1In_f, hi]; simp
    | true =>
      have hi' := hi
      unfold inRange at hi'
      simp only [Bool.and_eq_true, decide_eq_true_eq] at hi'
      obtain ⟨j, rfl⟩ := Int.eq_ofNat_of_zero_le hi'.1
      have hj : j < r * q := by omega
      have hd : impl_hexNear.f r q j = some (hexL r q j 6) := by
        unfold impl_hexNear.f
        rw [if_pos]
        exact ⟨⟨by omega, by omega⟩, ⟨by omega, by omega⟩, by omega, by omega⟩
      refine ⟨(hexL r q j 6, true), hexL_len _ _ _ _, ?_, fun k hk => ?_⟩
      · unfold impl_HexNear.f; rw [isShape_f, hs, hw, hw2, in_f, hi]; simp [hd]
      · unfold spec_HexNear.f; rw [hxSides_f, hs, hw, hw2, l1In_f, hi]; simp [Go.Proofs.Ytenaefpbjblmbaa.Pa.around h1.1 h2.1 h3 hj k hk]
end HexNear

theorem FnExactHexNear : laws_FnExactHexNear.Pure := by
  intro a c i _ _ _
  obtain ⟨g, hl, h1, h2⟩ := HexNear.same a c i
  refine ⟨100, ?_⟩
  have he : ∀ k, 6 < k → laws_eqIntS.f k g.1 g.1 = some true := fun k hk => by rw [eqIntS_f g.1 g.1 (by omega) k (by omega)]; simp
  have hm : ∀ k, 6 < k → laws_markIntS.f k g.1 1 = some (1 + (g.1.length : Int), marks 1 g.1.length) := fun k hk => markIntS_f g.1 1 k (by omega) (by omega) (by omega)
  have hh : ∀ k, 6 < k → laws_heldIntS.f k (marks 1 g.1.length) 1 = some (1 + (g.1.length : Int)) := fun k hk => heldIntS_f g.1.length 1 k (by omega) (by omega) (by omega)
  have hn : ¬ (1 + (g.1.length : Int) < 0) := by omega
  unfold laws_FnExactHexNear.f
  rw [h2 100 (by omega), h1]
  simp only [Option.bind_some, he 100 (by omega), if_true, bne_self_eq_false]
  rw [laws_FnExactHexNear.j0, if_neg (by simp), hm 99 (by omega)]
  simp only [Option.bind_some, hh 99 (by omega)]
  rw [if_neg hn, if_pos trivial, h1]
  simp only [Option.bind_some, he 99 (by omega), if_true, bne_self_eq_false]
  rw [laws_FnExactHexNear.j1, if_neg (by simp), hh 98 (by omega)]
  simp only [Option.bind_some]
  rw [if_neg hn, if_pos trivial]
end Go.Proofs.Ytenaefpbjblmbaa.Pure
