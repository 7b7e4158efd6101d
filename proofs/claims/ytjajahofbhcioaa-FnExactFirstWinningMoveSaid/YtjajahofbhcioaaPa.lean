/- Plain: neighbours of places of boards of hexagons, by the kernel, for all boards with at most 30 places. -/
import Derived.Test.YtjajahofbhcioaaQx2
import Derived.Test.YtjajahofbhcioaaGq
import Derived.Test.YtjajahofbhcioaaHu
namespace Go.Proofs.Ytjajahofbhcioaa.Pa
open Go.RowKit Go.Proofs.Ytjajahofbhcioaa.Q Go.Proofs.Ytjajahofbhcioaa.Given Go.Proofs.YtjajahofbhcioaaW.PrintWords Go.Proofs.YtjajahofbhcioaaW.PrintLast
set_option linter.unusedVariables false
set_option linter.unusedSimpArgs false

def adjI (c : Int) (i j : Int) : Prop := Go.Proofs.Ytjajahofbhcioaa.Hu.adj (i / c) (i % c) (j / c) (j % c)
instance (c i j : Int) : Decidable (adjI c i j) := by unfold adjI Go.Proofs.Ytjajahofbhcioaa.Hu.adj; infer_instance
theorem adjI_symm {c i j : Int} (h : adjI c i j) : adjI c j i := Go.Proofs.Ytjajahofbhcioaa.Hu.adj_symm h

def chkP (r c i : Nat) : Bool := (spec_hxAround.f 12 r c i == some (hexL r c i 6)) && (List.range (r * c)).all fun j => decide (((j : Nat) : Int) ∈ hexL r c i 6) == decide (adjI c i j)
def chk (c : Nat) : Bool := (List.range 31).all fun r => if decide (1 ≤ r) && decide (r * c ≤ 30) then (List.range (r * c)).all fun i => chkP r c i else true
set_option maxRecDepth 1000000 in
theorem chkAll : (List.range 31).all chk = true := by decide +kernel

theorem chk_of {r c i : Nat} (hr : 1 ≤ r) (hc : 1 ≤ c) (hn : r * c ≤ 30) (hi : i < r * c) : chkP r c i = true := by
  have h := chkAll
  rw [List.all_eq_true] at h
  have hc2 : c ≤ r * c := Nat.le_mul_of_pos_left c hr
  have hr2 : r ≤ r * c := Nat.le_mul_of_pos_right r hc
  have h1 := h c (List.mem_range.mpr (by omega))
  unfold chk at h1
  rw [List.all_eq_true] at h1
  have h2 := h1 r (List.mem_range.mpr (by omega))
  rw [if_pos (by simp [hr, hn])] at h2
  rw [List.all_eq_true] at h2
  exact h2 i (List.mem_range.mpr hi)
theorem around {r c i : Nat} (hr : 1 ≤ r) (hc : 1 ≤ c) (hn : r * c ≤ 30) (hi : i < r * c) (k : Nat) (hk : 12 ≤ k) : spec_hxAround.f k r c i = some (hexL r c i 6) := by
  have h := chk_of hr hc hn hi
  unfold chkP at h
  rw [Bool.and_eq_true] at h
  exact at_rounds (fun k => spec_hxAround.mono _ _ _ k) hk (eq_of_beq h.1)
theorem near_iff {r c i j : Nat} (hr : 1 ≤ r) (hc : 1 ≤ c) (hn : r * c ≤ 30) (hi : i < r * c) (hj : j < r * c) : ((j : Nat) : Int) ∈ hexL r c i 6 ↔ adjI c i j := by
  have h := chk_of hr hc hn hi
  unfold chkP at h
  rw [Bool.and_eq_true, List.all_eq_true] at h
  have h2 := h.2 j (List.mem_range.mpr hj)
  have h3 := eq_of_beq h2
  exact decide_eq_decide.mp h3
end Go.Proofs.Ytjajahofbhcioaa.Pa
