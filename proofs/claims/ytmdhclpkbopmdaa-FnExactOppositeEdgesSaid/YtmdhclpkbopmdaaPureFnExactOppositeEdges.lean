/- The law FnExactOppositeEdges answers true for all ints and every list of ints: the program's OppositeEdges and the reference's return the same, in memory of their own, and the list is left alone. No condition. -/
import Derived.Test.YtmdhclpkbopmdaaLwOppositeEdges
import Derived.Test.YtmdhclpkbopmdaaPo
import Derived.Test.YtmdhclpkbopmdaaGt
namespace Go.Proofs.Ytmdhclpkbopmdaa.Pure
open Go.RowKit Go.Proofs.Ytmdhclpkbopmdaa.Q Go.Proofs.Ytmdhclpkbopmdaa.Given Go.Proofs.Ytmdhclpkbopmdaa.Pz Go.Proofs.Ytmdhclpkbopmdaa.Pm Go.Proofs.Ytmdhclpkbopmdaa.Po Go.Proofs.Ytmdhclpkbopmdaa.Pg Go.Proofs.YtmdhclpkbopmdaaW.PrintWords Go.Proofs.YtmdhclpkbopmdaaW.PrintLast
set_option linter.unusedVariables false
set_option linter.unusedSimpArgs false

namespace OppositeEdges
def cntS (n : Nat) : Nat := (2 * n + 1) * (2 * n + 1)
def chk (n : Nat) : Bool := (List.range (cntS n)).all fun i => (List.range (cntS n)).all fun j => (spec_opNear.f n i j).isSome && impl_square_areNear.f n i j == spec_opNear.f n i j
set_option maxRecDepth 1000000 in
theorem chk1 : chk 1 = true := by decide +kernel
set_option maxRecDepth 1000000 in
theorem chk2 : chk 2 = true := by decide +kernel
set_option maxRecDepth 1000000 in
theorem chk3 : chk 3 = true := by decide +kernel
set_option maxRecDepth 1000000 in
theorem chk4 : chk 4 = true := by decide +kernel
theorem near_of {n : Nat} (h0 : 1 ≤ n) (h1 : n ≤ 4) {i j : Nat} (hi : i < cntS n) (hj : j < cntS n) : spec_opNear.f n i j = some (nearR n i j) ∧ impl_square_areNear.f n i j = some (nearR n i j) := by
  have h : chk n = true := by
    obtain rfl | rfl | rfl | rfl : n = 1 ∨ n = 2 ∨ n = 3 ∨ n = 4 := by omega
    · exact chk1
    · exact chk2
    · exact chk3
    · exact chk4
  unfold chk at h
  simp only [List.all_eq_true, List.mem_range, Bool.and_eq_true, beq_iff_eq] at h
  obtain ⟨a1, a2⟩ := h i hi j hj
  obtain ⟨u, hu⟩ := Option.isSome_iff_exists.mp a1
  have : nearR n i j = u := by unfold nearR; rw [hu]; rfl
  rw [this, a2, hu]
  exact ⟨rfl, rfl⟩

def Two (x : List (List Int)) : Prop := ∀ r ∈ x, r.length = 2
theorem ev_s {α : Type} {g f : Nat → Option α} {v : α} (h : ∀ k, g (k + 1) = f k) (hf : ∃ K, ∀ k, K ≤ k → f k = some v) : ∃ K, ∀ k, K ≤ k → g k = some v := by
  obtain ⟨K, hK⟩ := hf
  refine ⟨K + 1, fun k hk => ?_⟩
  obtain ⟨m, rfl⟩ : ∃ m, k = m + 1 := ⟨k - 1, by omega⟩
  rw [h m]
  exact hK m (by omega)
theorem edI_two (nr : Int → Int → Bool) (l : List Int) (i : Int) (d : Nat) : ∀ (j : Nat) (x : List (List Int)), Two x → Two (edI nr l i d j x) ∧ (edI nr l i d j x).length ≤ x.length + d := by
  induction d with
  | zero => intro j x h; exact ⟨h, by unfold edI; omega⟩
  | succ d ih =>
    intro j x h
    unfold edI
    have h2 : Two (if edgeT nr l i j = true then x ++ [[i, (j : Int)]] else x) ∧ (if edgeT nr l i j = true then x ++ [[i, (j : Int)]] else x).length ≤ x.length + 1 := by
      split
      · refine ⟨fun r hr => ?_, by simp⟩
        rcases List.mem_append.mp hr with h1 | h1
        · exact h r h1
        · rw [List.mem_singleton.mp h1]; rfl
      · exact ⟨h, by omega⟩
    obtain ⟨a, b⟩ := ih (j + 1) _ h2.1
    exact ⟨a, by omega⟩
theorem edO_two (nr : Int → Int → Bool) (l : List Int) (d : Nat) : ∀ (i : Nat) (x : List (List Int)), Two x → Two (edO nr l d i x) ∧ (edO nr l d i x).length ≤ x.length + d * l.length := by
  induction d with
  | zero => intro i x h; exact ⟨h, by unfold edO; omega⟩
  | succ d ih =>
    intro i x h
    unfold edO
    obtain ⟨a, b⟩ := edI_two nr l i (l.length - (i + 1)) (i + 1) x h
    obtain ⟨c, e⟩ := ih (i + 1) _ a
    refine ⟨c, ?_⟩
    rw [Nat.succ_mul]
    omega

section
variable {n : Nat} {l : List Int}
theorem inner (h0 : 1 ≤ n) (h1 : n ≤ 4) (hl : l.length = cntS n) (hc : cntS n ≤ 81) {v : List (List Int) × Bool} (i : Nat) (hi : i < cntS n) (B : Nat) (hB : B ≤ 8000) (d : Nat) : ∀ (j : Nat) (x : List (List Int)), j + d = l.length → x.length + d ≤ B →
    (∃ K, ∀ k, K ≤ k → impl_OppositeEdges.l0 k l (edI (nearR n) l i d j x) (l.length : Int) ((i + 1 : Nat) : Int) (n : Int) = some v) →
    ∃ K, ∀ k, K ≤ k → impl_OppositeEdges.l1 k l x (i : Int) (j : Int) (l.length : Int) (i : Int) (n : Int) = some v := by
  have hwi : wrap64 ((i : Int) + 1) = ((i + 1 : Nat) : Int) := by rw [wr (by omega) (by omega)]; omega
  induction d with
  | zero =>
    intro j x hj hx hv
    refine ev_s (fun k => ?_) hv
    rw [impl_OppositeEdges.l1, if_neg (by omega), hwi]
    rfl
  | succ d ih =>
    intro j x hj hx hv
    have hjn : j < cntS n := by omega
    have hwj : wrap64 ((j : Int) + 1) = ((j + 1 : Nat) : Int) := by rw [wr (by omega) (by omega)]; omega
    have hnr := (near_of h0 h1 hi hjn).2
    have i0 : (0 : Int) ≤ (i : Int) := Int.natCast_nonneg i
    have j0 : (0 : Int) ≤ (j : Int) := Int.natCast_nonneg j
    have il : (i : Int) < (l.length : Int) := by omega
    have jl : (j : Int) < (l.length : Int) := by omega
    unfold edI at hv
    have hlen : (if edgeT (nearR n) l i j = true then x ++ [[(i : Int), (j : Int)]] else x).length ≤ x.length + 1 := by
      split
      · rw [List.length_append, List.length_singleton]; exact Nat.le_refl _
      · exact Nat.le_succ _
    refine ev_s (fun k => ?_) (ih (j + 1) (if edgeT (nearR n) l i j = true then x ++ [[(i : Int), (j : Int)]] else x) (by omega) (by omega) hv)
    have hxl : x.length < 5864062014805 := by omega
    have hT : edgeT (nearR n) l i j = (nearR n i j && (wrap64 (rd l (i : Int) + rd l (j : Int)) == 0)) := rfl
    rw [impl_OppositeEdges.l1, if_pos jl, hnr, hwj, hT, Option.bind_some]
    clear hv ih hT hx hlen hwj hnr
    generalize nearR n i j = nb
    generalize wrap64 (rd l (i : Int) + rd l (j : Int)) = z
    cases nb with
    | false => rw [Bool.false_and, if_neg Bool.false_ne_true, if_neg Bool.false_ne_true]
    | true =>
      rw [if_pos rfl, if_pos i0, if_pos il, if_pos j0, Bool.true_and]
      by_cases hz : z = 0
      · rw [if_pos hz, if_pos hxl, if_pos (beq_iff_eq.mpr hz)]
      · rw [if_neg hz, if_neg (by rw [beq_eq_false_iff_ne.mpr hz]; exact Bool.false_ne_true)]
theorem outer (h0 : 1 ≤ n) (h1 : n ≤ 4) (hl : l.length = cntS n) (hc : cntS n ≤ 81) (d : Nat) : ∀ (i : Nat) (x : List (List Int)), i + d = l.length → Two x → x.length + d * 81 ≤ 7000 →
    ∃ K, ∀ k, K ≤ k → impl_OppositeEdges.l0 k l x (l.length : Int) (i : Int) (n : Int) = some (edO (nearR n) l d i x, true) := by
  induction d with
  | zero =>
    intro i x hi _ hx
    refine ⟨1, fun k hk => ?_⟩
    obtain ⟨k, rfl⟩ : ∃ m, k = m + 1 := ⟨k - 1, by omega⟩
    rw [impl_OppositeEdges.l0, if_neg (by omega)]
    rfl
  | succ d ih =>
    intro i x hi h2 hx
    have hwi : wrap64 ((i : Int) + 1) = ((i + 1 : Nat) : Int) := by rw [wr (by omega) (by omega)]; omega
    obtain ⟨a, b⟩ := edI_two (nearR n) l i (l.length - (i + 1)) (i + 1) x h2
    have h3 := inner h0 h1 hl hc i (by omega) (x.length + (l.length - (i + 1))) (by omega) (l.length - (i + 1)) (i + 1) x (by omega) (by omega) (ih (i + 1) _ (by omega) a (by omega))
    refine ev_s (fun k => ?_) h3
    rw [impl_OppositeEdges.l0, if_pos (by omega), hwi]
end
end OppositeEdges

theorem FnExactOppositeEdges : laws_FnExactOppositeEdges.Pure := by
  intro a l _ _ _ _ hb
  have hm : l.length ≤ 1099511627776 := by omega
  obtain ⟨b, _, h2, h3⟩ := opLabels_f a l hm (l.length + 2) (by omega)
  have h1 : ∀ k, l.length + 2 ≤ k → spec_opLabels.f k a l = some b := fun k hk => by
    obtain ⟨b2, e1, e2, _⟩ := opLabels_f a l hm k (by omega)
    rw [e1]; rw [h2] at e2; exact e2.symm
  obtain ⟨K, hK⟩ : ∃ K, l.length + 30000 ≤ K := ⟨_, Nat.le_refl _⟩
  cases b with
  | false =>
    refine ⟨K, ([], false), ?_, ?_, ⟨by simp, by simp⟩⟩
    · unfold spec_OppositeEdges.f; rw [h1 K (by omega)]; simp
    · unfold impl_OppositeEdges.f; rw [h2]; simp
  | true =>
    obtain ⟨⟨n1, n4⟩, hl, _⟩ := h3 rfl
    obtain ⟨n, rfl⟩ := Int.eq_ofNat_of_zero_le (show 0 ≤ a by omega)
    have m1 : 1 ≤ n := by omega
    have m4 : n ≤ 4 := by omega
    have hln : l.length = OppositeEdges.cntS n ∧ OppositeEdges.cntS n ≤ 81 := by
      unfold signs at hl
      unfold OppositeEdges.cntS
      obtain rfl | rfl | rfl | rfl : n = 1 ∨ n = 2 ∨ n = 3 ∨ n = 4 := by omega
      all_goals (simp [wrap64] at hl; omega)
    obtain ⟨hln, hc⟩ := hln
    obtain ⟨K2, hg⟩ := OppositeEdges.outer m1 m4 hln hc l.length 0 [] (by omega) (fun r hr => by cases hr) (by simp; omega)
    obtain ⟨t1, t2⟩ := OppositeEdges.edO_two (nearR n) l l.length 0 [] (fun r hr => by cases hr)
    obtain ⟨K3, hK3⟩ : ∃ K3, K + K2 ≤ K3 := ⟨_, Nat.le_refl _⟩
    have hmul : l.length * l.length ≤ 81 * 81 := Nat.mul_le_mul (by omega) (by omega)
    refine ⟨K3, (edO (nearR n) l l.length 0 [], true), ?_, ?_, ⟨?_, fun r hr => by have := t1 r hr; omega⟩⟩
    · unfold spec_OppositeEdges.f
      rw [h1 K3 (by omega)]
      simp only [Option.bind_some, if_true]
      rw [if_pos]
      refine ⟨fun i hi j hj => ?_, by omega⟩
      rw [(OppositeEdges.near_of m1 m4 (by omega) (by omega)).1]
      rfl
    · unfold impl_OppositeEdges.f
      rw [h2]
      simp only [Option.bind_some, if_true]
      exact hg K3 (by omega)
    · show (edO (nearR n) l l.length 0 []).length ≤ 10000
      simp at t2
      omega
end Go.Proofs.Ytmdhclpkbopmdaa.Pure
