/- Plain facts on the reference's reader of bytes: its choices lie in their ranges, for all bytes. -/
import Derived.Test.YtmdhclpkbopmdaaQx1
namespace Go.Proofs.Ytmdhclpkbopmdaa.Pj
open Go.RowKit Go.Proofs.Ytmdhclpkbopmdaa.Q Go.Proofs.YtmdhclpkbopmdaaW.PrintWords Go.Proofs.YtmdhclpkbopmdaaW.PrintLast
set_option linter.unusedVariables false
set_option linter.unusedSimpArgs false

theorem wr {x : Int} (h0 : -9223372036854775808 ≤ x) (h1 : x ≤ 9223372036854775807) : wrap64 x = x := by unfold wrap64; omega
def Bytes (l : List Int) : Prop := ∀ x ∈ l, 0 ≤ x ∧ x ≤ 255
theorem bytes_of {l : List Int} (h : ∀ x ∈ l, (Lit.int .u8 x).wf = true) : Bytes l := by
  intro x hx
  have := h x hx
  simp [Lit.wf, IntKind.min, IntKind.max, IntKind.signed, IntKind.bits] at this
  omega
theorem and255 (x : Int) : 0 ≤ Go.bits .and .u64 x 255 ∧ Go.bits .and .u64 x 255 ≤ 255 := by
  have h : Go.bits .and .u64 x 255 = IntKind.u64.wrap ((BitVec.ofInt 64 x &&& BitVec.ofInt 64 255).toNat : Int) := rfl
  rw [h, BitVec.toNat_and]
  have h2 : (BitVec.ofInt 64 x).toNat &&& (BitVec.ofInt 64 255).toNat ≤ 255 := Nat.le_trans Nat.and_le_right (by decide)
  generalize (BitVec.ofInt 64 x).toNat &&& (BitVec.ofInt 64 255).toNat = m at h2
  rw [IntKind.wrap_u64]
  omega
theorem rd_byte {l : List Int} (h : Bytes l) (i : Int) : 0 ≤ rd l i ∧ rd l i ≤ 255 := by
  unfold rd
  rw [List.getD_eq_getElem?_getD]
  cases e : l[i.toNat]? with
  | none => simp
  | some y => exact h y (List.mem_of_getElem? e)
theorem w255 {x : Int} (h : 0 ≤ x ∧ x ≤ 255) : 0 ≤ wrap64 x ∧ wrap64 x ≤ 255 := by rw [wr (by omega) (by omega)]; exact h

theorem next_ok {l : List Int} (hl : Bytes l) (s1 s2 : Int) (h0 : 0 ≤ s1) (h1 : s1 ≤ 1099511627776) : ∃ b s3, spec_l1Cur_next.f l s1 s2 = some (b, s1 + 1, s3) ∧ 0 ≤ b ∧ b ≤ 255 := by
  have hw : wrap64 (s1 + 1) = s1 + 1 := wr (by omega) (by omega)
  unfold spec_l1Cur_next.f
  rw [hw]
  by_cases c : s1 < (l.length : Int)
  · rw [if_pos c, if_pos h0, if_pos (by omega)]
    exact ⟨_, _, rfl, w255 (rd_byte hl s1)⟩
  · rw [if_neg c, if_neg (by omega)]
    exact ⟨_, _, rfl, w255 (and255 _)⟩

theorem pick_ok {l : List Int} (hl : Bytes l) (s1 s2 m : Int) (h0 : 0 ≤ s1) (h1 : s1 ≤ 1099511627000) : ∃ t s1' s2', spec_l1Cur_pick.f l s1 s2 m = some (t, s1', s2') ∧ 0 ≤ t ∧ (1 < m → t < m) ∧ (m ≤ 1 → t = 0) ∧ s1 ≤ s1' ∧ s1' ≤ s1 + 2 := by
  unfold spec_l1Cur_pick.f
  by_cases c : m ≤ 1
  · rw [if_pos c]
    exact ⟨_, _, _, rfl, Int.le_refl _, fun h => by omega, fun _ => rfl, Int.le_refl _, by omega⟩
  · obtain ⟨b, s3, e, b0, b1⟩ := next_ok hl s1 s2 h0 (by omega)
    rw [if_neg c, e, Option.bind_some]
    by_cases c2 : m > 200
    · obtain ⟨b', s4, e', b0', b1'⟩ := next_ok hl (s1 + 1) s3 (by omega) (by omega)
      simp only
      rw [if_pos c2, e', Option.bind_some, if_neg (by omega)]
      have w1 : wrap64 (b * 256) = b * 256 := wr (by omega) (by omega)
      have w2 : wrap64 (b * 256 + b') = b * 256 + b' := wr (by omega) (by omega)
      simp only [w1, w2]
      rw [Int.tmod_eq_emod_of_nonneg (by omega)]
      exact ⟨_, _, _, rfl, Int.emod_nonneg _ (by omega), fun _ => Int.emod_lt_of_pos _ (by omega), fun h => by omega, by omega, by omega⟩
    · simp only
      rw [if_neg c2, if_neg (by omega), Int.tmod_eq_emod_of_nonneg (by omega)]
      exact ⟨_, _, _, rfl, Int.emod_nonneg _ (by omega), fun _ => Int.emod_lt_of_pos _ (by omega), fun h => by omega, by omega, by omega⟩
end Go.Proofs.Ytmdhclpkbopmdaa.Pj
