/- The law FnExactTurnsOfBorder answers true for all ints and every list of ints: the program's TurnsOfBorder and the reference's return the same, and the list is left alone. No condition. -/
import Derived.Test.YtcnplmajlanmdaaQx10
import Derived.Test.YtcnplmajlanmdaaPl
namespace Go.Proofs.Ytcnplmajlanmdaa.Pure
open Go.RowKit Go.Proofs.Ytcnplmajlanmdaa.Q Go.Proofs.Ytcnplmajlanmdaa.Given Go.Proofs.Ytcnplmajlanmdaa.Pz Go.Proofs.Ytcnplmajlanmdaa.Pm Go.Proofs.Ytcnplmajlanmdaa.Pn Go.Proofs.Ytcnplmajlanmdaa.Pk Go.Proofs.Ytcnplmajlanmdaa.Pg Go.Proofs.Ytcnplmajlanmdaa.Pl Go.Proofs.YtcnplmajlanmdaaW.PrintWords Go.Proofs.YtcnplmajlanmdaaW.PrintLast
set_option linter.unusedVariables false
set_option linter.unusedSimpArgs false

namespace TurnsOfBorder
theorem loop {l : List Int} {ds : List (List Int)} (hd : ds.length ≤ 24) (hin : ∀ x ∈ ds, stepIn l x) (d : Nat) : ∀ (i : Nat) (s : Int), i + d = ds.length →
    ∃ g, ∀ k, d < k → spec_TurnsOfBorder.l0 k l s ds (ds.length : Int) (i : Int) = some g ∧ impl_TurnsOfBorder.l0 k l s ds (ds.length : Int) (i : Int) = some g := by
  induction d with
  | zero =>
    intro i s hi
    refine ⟨(s, true), fun k hk => ?_⟩
    obtain ⟨k, rfl⟩ : ∃ m, k = m + 1 := ⟨k - 1, by omega⟩
    exact ⟨by rw [spec_TurnsOfBorder.l0, if_neg (by omega)], by rw [impl_TurnsOfBorder.l0, if_neg (by omega)]⟩
  | succ d ih =>
    intro i s hi
    have hil : i < ds.length := by omega
    have hw : wrap64 ((i : Int) + 1) = ((i + 1 : Nat) : Int) := by rw [wr (by omega) (by omega)]; omega
    obtain ⟨h2, ⟨p0, q0⟩, p1, q1⟩ := hin _ (List.getElem_mem hil)
    rw [← rd_row ds i hil] at h2 p0 q0 p1 q1
    obtain ⟨g, hg⟩ := ih (i + 1) (wrap64 (s + (wrap64 ((rd l (rd (rd_L1 ds i) 1)) - (rd l (rd (rd_L1 ds i) 0)))))) (by omega)
    refine ⟨g, fun k hk => ?_⟩
    obtain ⟨k, rfl⟩ : ∃ m, k = m + 1 := ⟨k - 1, by omega⟩
    have c1 : (i : Int) < (ds.length : Int) := by omega
    have c2 : (0 : Int) ≤ (i : Int) := by omega
    have c3 : (1 : Int) < ((rd_L1 ds i).length : Int) := by omega
    have c4 : (0 : Int) < ((rd_L1 ds i).length : Int) := by omega
    obtain ⟨g1, g2⟩ := hg k (by omega)
    refine ⟨?_, ?_⟩
    · rw [spec_TurnsOfBorder.l0, if_pos c1, if_pos c2, if_pos c1, if_pos c3, if_pos p1, if_pos q1, if_pos c4, if_pos p0, if_pos q0, hw]
      exact g1
    · rw [impl_TurnsOfBorder.l0, if_pos c1, if_pos c2, if_pos c1, if_pos c3, if_pos p1, if_pos q1, if_pos c4, if_pos p0, if_pos q0, hw]
      exact g2
end TurnsOfBorder

theorem FnExactTurnsOfBorder : laws_FnExactTurnsOfBorder.Pure := by
  intro a l _ _ _ _
  by_cases hb : (l.length : Int) > 1048576
  · exact ⟨1, by unfold laws_FnExactTurnsOfBorder.f; rw [if_pos hb]⟩
  · obtain ⟨K, hK⟩ : ∃ K, l.length + 29997 ≤ K := ⟨_, Nat.le_refl _⟩
    refine ⟨K + 3, ?_⟩
    have hm : l.length ≤ 1099511627776 := by omega
    have ht : ∀ k, l.length < k → laws_toIntS.f k l = some l := fun k hk => toIntS_f l hm k hk
    have he : ∀ k, l.length < k → laws_eqIntS.f k l l = some true := fun k hk => by rw [eqIntS_f l l hm k hk]; simp
    obtain ⟨b, h1, h2, h3⟩ := meLabels_f a l hm (K + 3) (by omega)
    have hg : ∃ g, spec_TurnsOfBorder.f (K + 3) a l = some g ∧  impl_TurnsOfBorder.f (K + 3) a l = some g := by
      cases b with
      | false =>
        refine ⟨(0, false), ?_, ?_⟩
        · unfold spec_TurnsOfBorder.f
          rw [h1]
          rfl
        · unfold impl_TurnsOfBorder.f
          rw [houseOf_no h2]
          rfl
      | true =>
        obtain ⟨cs, bd, H⟩ := hse_of h2
        have B := brd_of H
        have hdl : (doorsL l bd).length ≤ 24 := Nat.le_trans (doorsL_len l bd) B.bl
        obtain ⟨g, hg⟩ := TurnsOfBorder.loop hdl (doorsL_in B) (doorsL l bd).length 0 0 (by omega)
        obtain ⟨g1, g2⟩ := hg (K + 3) (by omega)
        refine ⟨g, ?_, ?_⟩
        · unfold spec_TurnsOfBorder.f
          rw [h1, Option.bind_some, if_pos rfl, doBorder_f H (K + 3) (by omega), Option.bind_some]
          exact g1
        · unfold impl_TurnsOfBorder.f
          rw [houseOf_yes h2 H.cls (K + 3) (by omega), Option.bind_some]
          simp only [if_true]
          rw [entries_f B (K + 3) (by omega), Option.bind_some]
          exact g2
    obtain ⟨g, g1, g2⟩ := hg
    unfold laws_FnExactTurnsOfBorder.f
    rw [if_neg hb, ht _ (by omega)]
    simp only [Option.bind_some, g1, g2]
    simp [laws_FnExactTurnsOfBorder.j0, ht (K + 2) (by omega), he (K + 2) (by omega)]
end Go.Proofs.Ytcnplmajlanmdaa.Pure
