/- The law FnExactTurnBoard answers true for all ints and every list of ints: the program's TurnBoard and the reference's return the same, in memory of their own, and the list is left alone. No condition. -/
import Derived.Test.YtenaefpbjblmbaaQx4
import Derived.Test.YtenaefpbjblmbaaPh
namespace Go.Proofs.Ytenaefpbjblmbaa.Pure
open Go.RowKit Go.Proofs.Ytenaefpbjblmbaa.Q Go.Proofs.Ytenaefpbjblmbaa.Given Go.Proofs.Ytenaefpbjblmbaa.Pz Go.Proofs.Ytenaefpbjblmbaa.Pm Go.Proofs.Ytenaefpbjblmbaa.Ph Go.Proofs.YtenaefpbjblmbaaW.PrintWords Go.Proofs.YtenaefpbjblmbaaW.PrintLast

namespace TurnBoard
def plc (a c i : Int) : Int := wrap64 ((wrap64 (a * (Int.tmod i c))) + (wrap64 (Int.tdiv i c)))
def chk (a c : Nat) : Bool := (List.range (a * c)).all fun (i : Nat) => decide (0 ≤ plc a c i) && decide (plc a c i < ((a * c : Nat) : Int))
def all : Bool := (List.range 31).all fun a => (List.range 31).all fun c => if a * c ≤ 30 then chk a c else true
set_option maxRecDepth 100000 in
theorem all_true : all = true := by decide +kernel
theorem plc_at {a c : Nat} (ha : a ≤ 30) (hc : c ≤ 30) (hac : a * c ≤ 30) (i : Nat) (hi : i < a * c) : 0 ≤ plc a c i ∧ plc a c i < ((a * c : Nat) : Int) := by
  have h := all_true
  unfold all at h
  rw [List.all_eq_true] at h
  have h := h a (List.mem_range.mpr (by omega))
  rw [List.all_eq_true] at h
  have h := h c (List.mem_range.mpr (by omega))
  rw [if_pos hac] at h
  unfold chk at h
  rw [List.all_eq_true] at h
  have h := h i (List.mem_range.mpr hi)
  simpa using h

theorem l0_eq (k : Nat) : ∀ x0 x1 x8 x19 x20 x21, spec_TurnBoard.l0 k x0 x1 x8 x19 x20 x21 = impl_TurnBoard.l0 k x0 x1 x8 x19 x20 x21 := by
  induction k with
  | zero => intros; rfl
  | succ k ih => intros; rw [spec_TurnBoard.l0, impl_TurnBoard.l0]; simp only [ih]

theorem l0_some {a c : Nat} (ha : a ≤ 30) (hc : c ≤ 30) (h0 : 0 < c) (hac : a * c ≤ 30) {l : List Int} (hl : l.length = a * c) (d : Nat) : ∀ (i : Nat) (x : List Int), l.length - i = d → i ≤ l.length → x.length = l.length →
    ∃ v : List Int, v.length = l.length ∧ ∀ k, d < k → impl_TurnBoard.l0 k a c x l (l.length : Int) (i : Int) = some (v, true) := by
  induction d with
  | zero =>
    intro i x hd hi hx
    refine ⟨x, hx, fun k hk => ?_⟩
    obtain ⟨k, rfl⟩ : ∃ m, k = m + 1 := ⟨k - 1, by omega⟩
    rw [impl_TurnBoard.l0, if_neg (by omega)]
  | succ d ih =>
    intro i x hd hi hx
    have hlt : i < l.length := by omega
    obtain ⟨p0, p1⟩ := plc_at ha hc hac i (by omega)
    have w2 : wrap64 ((i : Int) + 1) = ((i + 1 : Nat) : Int) := by rw [wr (by omega) (by omega)]; omega
    obtain ⟨v, hv, h⟩ := ih (i + 1) (x.set (plc a c i).toNat (if rd l i > 0 then wrap64 (3 - rd l i) else rd l i)) (by omega) (by omega) (by rw [List.length_set]; exact hx)
    refine ⟨v, hv, fun k hk => ?_⟩
    obtain ⟨k, rfl⟩ : ∃ m, k = m + 1 := ⟨k - 1, by omega⟩
    have h := h k (by omega)
    unfold plc at p0 p1 h
    rw [impl_TurnBoard.l0, if_pos (by omega), if_pos (by omega), if_pos (by omega), w2]
    by_cases g : rd l i > 0
    · rw [if_pos g] at h
      rw [if_pos g, if_neg (by omega), if_pos p0, if_pos (by omega)]
      exact h
    · rw [if_neg g] at h
      rw [if_neg g, if_neg (by omega), if_pos p0, if_pos (by omega)]
      exact h
end TurnBoard

theorem FnExactTurnBoard : laws_FnExactTurnBoard.Pure := by
  intro a c l _ _ _ _ _
  by_cases hb : (l.length : Int) > 1048576
  · exact ⟨1, by unfold laws_FnExactTurnBoard.f; rw [if_pos hb]⟩
  · obtain ⟨K, hK⟩ : ∃ K, l.length + 397 ≤ K := ⟨_, Nat.le_refl _⟩
    refine ⟨K + 3, ?_⟩
    have hm : l.length ≤ 1099511627776 := by omega
    have ht : ∀ k, l.length < k → laws_toIntS.f k l = some l := fun k hk => toIntS_f l hm k hk
    have he : ∀ k, l.length < k → laws_eqIntS.f k l l = some true := fun k hk => by rw [eqIntS_f l l hm k hk]; simp
    obtain ⟨b, h1, h2, h3⟩ := board_f a c l hm (K + 3) (by omega)
    have hg : ∃ v b, v.length ≤ l.length ∧ spec_TurnBoard.f (K + 3) a c l = some (v, b) ∧ ∀ k, l.length < k → impl_TurnBoard.f k a c l = some (v, b) := by
      cases b with
      | false =>
        refine ⟨[], false, by simp, ?_, fun k hk => ?_⟩
        · unfold spec_TurnBoard.f; rw [h1]; rfl
        · unfold impl_TurnBoard.f; rw [h2]; rfl
      | true =>
        obtain ⟨hs, hl, _⟩ := h3 rfl
        obtain ⟨⟨a1, a2⟩, ⟨c1, c2⟩, hac⟩ := shape_of hs
        obtain ⟨a, rfl⟩ := Int.eq_ofNat_of_zero_le (show 0 ≤ a by omega)
        obtain ⟨c, rfl⟩ := Int.eq_ofNat_of_zero_le (show 0 ≤ c by omega)
        have hle : a * c ≤ 30 * 30 := Nat.mul_le_mul (by omega) (by omega)
        have hw : wrap64 ((a : Int) * (c : Int)) = ((a * c : Nat) : Int) := by rw [← Int.natCast_mul, wr (by omega) (by omega)]
        rw [hw] at hl hac
        obtain ⟨v, hv, h⟩ := TurnBoard.l0_some (a := a) (c := c) (by omega) (by omega) (by omega) (by omega) (l := l) (by omega) l.length 0 (List.replicate l.length 0) (by omega) (by omega) (by simp)
        refine ⟨v, true, by omega, ?_, fun k hk => ?_⟩
        · unfold spec_TurnBoard.f
          rw [h1]
          simp only [Option.bind_some, if_true, Int.toNat_natCast]
          rw [if_pos (by omega), if_pos (by omega), TurnBoard.l0_eq]
          exact h (K + 3) (by omega)
        · unfold impl_TurnBoard.f
          rw [h2]
          simp only [Option.bind_some, if_true, Int.toNat_natCast]
          rw [if_pos (by omega), if_pos (by omega)]
          exact h k hk
    obtain ⟨v, b, hv, g1, g2⟩ := hg
    have ve : ∀ k, l.length < k → laws_eqIntS.f k v v = some true := fun k hk => by rw [eqIntS_f v v (by omega) k (by omega)]; simp
    have vm : ∀ k, l.length < k → laws_markIntS.f k v 1 = some (1 + (v.length : Int), marks 1 v.length) := fun k hk => markIntS_f v 1 k (by omega) (by omega) (by omega)
    have vh : ∀ k, l.length < k → laws_heldIntS.f k (marks 1 v.length) 1 = some (1 + v.length) := fun k hk => heldIntS_f v.length 1 k (by omega) (by omega) (by omega)
    have lm : ∀ k, l.length < k → laws_markIntS.f k l 1 = some (1 + (l.length : Int), marks 1 l.length) := fun k hk => markIntS_f l 1 k (by omega) (by omega) (by omega)
    have p0 : ¬ (1 + (l.length : Int) < 0) := by omega
    have p1 : ¬ (1 + (v.length : Int) < 0) := by omega
    unfold laws_FnExactTurnBoard.f
    rw [if_neg hb, ht _ (by omega)]
    simp only [Option.bind_some, g1, g2 (K + 3) (by omega), ve (K + 3) (by omega), if_true]
    simp [laws_FnExactTurnBoard.j0, laws_FnExactTurnBoard.j1, laws_FnExactTurnBoard.j2, ht (K + 2) (by omega), he (K + 2) (by omega), lm (K + 2) (by omega), ve (K + 2) (by omega), vm (K + 1) (by omega), vh (K + 1) (by omega), vh K (by omega), ht (K + 1) (by omega), g2 (K + 1) (by omega), ve (K + 1) (by omega), p0, p1]
end Go.Proofs.Ytenaefpbjblmbaa.Pure
