/- Plain: the places near both places of a door, the one before left out, are the walk's next place. -/
import Derived.Test.YtmfocekebenniaaNd
import Derived.Test.YtmfocekebenniaaHe
namespace Go.Proofs.Ytmfocekebenniaa.Given
open Go.Proofs.Ytmfocekebenniaa.Q Go.RowKit Go.Proofs.YtmfocekebenniaaW.PrintWords Go.Proofs.YtmfocekebenniaaW.PrintLast Go.Proofs.YtmfocekebenniaaW.PrintMore
open Go.Proofs.Ytmfocekebenniaa.Hw Go.Proofs.Ytmfocekebenniaa.Hu
abbrev st0 : St := Go.Proofs.Ytmfocekebenniaa.Hw.start
set_option linter.unusedVariables false
set_option linter.unusedSimpArgs false
def sel (R C a b : Int) : List Pl := if tIn R C a b then [⟨a, b⟩] else []
theorem tIn_has (R C a b : Int) : tIn R C a b = has R C a b := rfl
theorem th_yes (R C p0 p1 q0 q1 : Int) (m : Nat) (h : tNear (q0 - (p0 + stR m)) (q1 - (p1 + stC m)) = true) : thirdsL R C p0 p1 q0 q1 (m + 1) = thirdsL R C p0 p1 q0 q1 m ++ sel R C (p0 + stR m) (p1 + stC m) := by
  rw [thirdsL, h, Bool.and_true]
  unfold sel
  split
  · rfl
  · exact (List.append_nil _).symm
theorem th_no (R C p0 p1 q0 q1 : Int) (m : Nat) (h : tNear (q0 - (p0 + stR m)) (q1 - (p1 + stC m)) = false) : thirdsL R C p0 p1 q0 q1 (m + 1) = thirdsL R C p0 p1 q0 q1 m := by
  rw [thirdsL, h, Bool.and_false, if_neg (by decide)]
theorem tn (p0 p1 q0 q1 : Int) (dx dy : Int) (m : Nat) (r : Bool) (h0 : q0 - p0 = dx) (h1 : q1 - p1 = dy) (h : tNear (dx - stR m) (dy - stC m) = r) : tNear (q0 - (p0 + stR m)) (q1 - (p1 + stC m)) = r := by
  rw [show q0 - (p0 + stR m) = dx - stR m by omega, show q1 - (p1 + stC m) = dy - stC m by omega]
  exact h
theorem thirds_sel (R C p0 p1 q0 q1 : Int) (h : adj p0 p1 q0 q1) : ∃ A0 A1 B0 B1, thirdsL R C p0 p1 q0 q1 6 = sel R C A0 A1 ++ sel R C B0 B1 ∧ ((A0 = thr p0 p1 q0 q1 ∧ A1 = thc p0 p1 q0 q1 ∧ B0 = ohr p0 p1 q0 q1 ∧ B1 = ohc p0 p1 q0 q1) ∨ (A0 = ohr p0 p1 q0 q1 ∧ A1 = ohc p0 p1 q0 q1 ∧ B0 = thr p0 p1 q0 q1 ∧ B1 = thc p0 p1 q0 q1)) := by
  unfold thr thc ohr ohc
  have h2 : (q0 - p0 = 0 ∧ q1 - p1 = -1) ∨ (q0 - p0 = 0 ∧ q1 - p1 = 1) ∨ (q0 - p0 = -1 ∧ q1 - p1 = 0) ∨ (q0 - p0 = -1 ∧ q1 - p1 = 1) ∨ (q0 - p0 = 1 ∧ q1 - p1 = -1) ∨ (q0 - p0 = 1 ∧ q1 - p1 = 0) := by
    unfold adj at h; omega
  clear h
  rcases h2 with ⟨h0, h1⟩ | ⟨h0, h1⟩ | ⟨h0, h1⟩ | ⟨h0, h1⟩ | ⟨h0, h1⟩ | ⟨h0, h1⟩
  · refine ⟨p0 + stR 0, p1 + stC 0, p0 + stR 4, p1 + stC 4, ?_, ?_⟩
    · rw [th_no _ _ _ _ _ _ 5 (tn _ _ _ _ _ _ _ _ h0 h1 (by decide)), th_yes _ _ _ _ _ _ 4 (tn _ _ _ _ _ _ _ _ h0 h1 (by decide)), th_no _ _ _ _ _ _ 3 (tn _ _ _ _ _ _ _ _ h0 h1 (by decide)), th_no _ _ _ _ _ _ 2 (tn _ _ _ _ _ _ _ _ h0 h1 (by decide)), th_no _ _ _ _ _ _ 1 (tn _ _ _ _ _ _ _ _ h0 h1 (by decide)), th_yes _ _ _ _ _ _ 0 (tn _ _ _ _ _ _ _ _ h0 h1 (by decide))]
      rfl
    · simp only [stR, stC]; omega
  · refine ⟨p0 + stR 1, p1 + stC 1, p0 + stR 5, p1 + stC 5, ?_, ?_⟩
    · rw [th_yes _ _ _ _ _ _ 5 (tn _ _ _ _ _ _ _ _ h0 h1 (by decide)), th_no _ _ _ _ _ _ 4 (tn _ _ _ _ _ _ _ _ h0 h1 (by decide)), th_no _ _ _ _ _ _ 3 (tn _ _ _ _ _ _ _ _ h0 h1 (by decide)), th_no _ _ _ _ _ _ 2 (tn _ _ _ _ _ _ _ _ h0 h1 (by decide)), th_yes _ _ _ _ _ _ 1 (tn _ _ _ _ _ _ _ _ h0 h1 (by decide)), th_no _ _ _ _ _ _ 0 (tn _ _ _ _ _ _ _ _ h0 h1 (by decide))]
      rfl
    · simp only [stR, stC]; omega
  · refine ⟨p0 + stR 1, p1 + stC 1, p0 + stR 2, p1 + stC 2, ?_, ?_⟩
    · rw [th_no _ _ _ _ _ _ 5 (tn _ _ _ _ _ _ _ _ h0 h1 (by decide)), th_no _ _ _ _ _ _ 4 (tn _ _ _ _ _ _ _ _ h0 h1 (by decide)), th_no _ _ _ _ _ _ 3 (tn _ _ _ _ _ _ _ _ h0 h1 (by decide)), th_yes _ _ _ _ _ _ 2 (tn _ _ _ _ _ _ _ _ h0 h1 (by decide)), th_yes _ _ _ _ _ _ 1 (tn _ _ _ _ _ _ _ _ h0 h1 (by decide)), th_no _ _ _ _ _ _ 0 (tn _ _ _ _ _ _ _ _ h0 h1 (by decide))]
      rfl
    · simp only [stR, stC]; omega
  · refine ⟨p0 + stR 0, p1 + stC 0, p0 + stR 3, p1 + stC 3, ?_, ?_⟩
    · rw [th_no _ _ _ _ _ _ 5 (tn _ _ _ _ _ _ _ _ h0 h1 (by decide)), th_no _ _ _ _ _ _ 4 (tn _ _ _ _ _ _ _ _ h0 h1 (by decide)), th_yes _ _ _ _ _ _ 3 (tn _ _ _ _ _ _ _ _ h0 h1 (by decide)), th_no _ _ _ _ _ _ 2 (tn _ _ _ _ _ _ _ _ h0 h1 (by decide)), th_no _ _ _ _ _ _ 1 (tn _ _ _ _ _ _ _ _ h0 h1 (by decide)), th_yes _ _ _ _ _ _ 0 (tn _ _ _ _ _ _ _ _ h0 h1 (by decide))]
      rfl
    · simp only [stR, stC]; omega
  · refine ⟨p0 + stR 2, p1 + stC 2, p0 + stR 5, p1 + stC 5, ?_, ?_⟩
    · rw [th_yes _ _ _ _ _ _ 5 (tn _ _ _ _ _ _ _ _ h0 h1 (by decide)), th_no _ _ _ _ _ _ 4 (tn _ _ _ _ _ _ _ _ h0 h1 (by decide)), th_no _ _ _ _ _ _ 3 (tn _ _ _ _ _ _ _ _ h0 h1 (by decide)), th_yes _ _ _ _ _ _ 2 (tn _ _ _ _ _ _ _ _ h0 h1 (by decide)), th_no _ _ _ _ _ _ 1 (tn _ _ _ _ _ _ _ _ h0 h1 (by decide)), th_no _ _ _ _ _ _ 0 (tn _ _ _ _ _ _ _ _ h0 h1 (by decide))]
      rfl
    · simp only [stR, stC]; omega
  · refine ⟨p0 + stR 3, p1 + stC 3, p0 + stR 4, p1 + stC 4, ?_, ?_⟩
    · rw [th_no _ _ _ _ _ _ 5 (tn _ _ _ _ _ _ _ _ h0 h1 (by decide)), th_yes _ _ _ _ _ _ 4 (tn _ _ _ _ _ _ _ _ h0 h1 (by decide)), th_yes _ _ _ _ _ _ 3 (tn _ _ _ _ _ _ _ _ h0 h1 (by decide)), th_no _ _ _ _ _ _ 2 (tn _ _ _ _ _ _ _ _ h0 h1 (by decide)), th_no _ _ _ _ _ _ 1 (tn _ _ _ _ _ _ _ _ h0 h1 (by decide)), th_no _ _ _ _ _ _ 0 (tn _ _ _ _ _ _ _ _ h0 h1 (by decide))]
      rfl
    · simp only [stR, stC]; omega

/-- What is known of the place before. -/
def Bef (R C : Int) (s : St) (m0 m1 : Int) : Prop := (s = st0 ∧ m0 = -9 ∧ m1 = -9) ∨ (m0 = ohr s.a s.b s.x s.y ∧ m1 = ohc s.a s.b s.x s.y ∧ has R C m0 m1 = true)
def pick1 (R C : Int) (s : St) : List Pl := sel R C (thr s.a s.b s.x s.y) (thc s.a s.b s.x s.y)
theorem plEq_iff (p : Pl) (m0 m1 : Int) : plEq p m0 m1 = true ↔ p.f0 = m0 ∧ p.f1 = m1 := by unfold plEq; simp
theorem sel_filter_ne {R C a b m0 m1 : Int} (h : ¬ (a = m0 ∧ b = m1)) : (sel R C a b).filter (fun p => !plEq p m0 m1) = sel R C a b := by
  unfold sel
  split
  · have : plEq ⟨a, b⟩ m0 m1 = false := by
      cases hq : plEq ⟨a, b⟩ m0 m1 with
      | false => rfl
      | true => exact absurd ((plEq_iff _ _ _).mp hq) h
    simp [this]
  · rfl
theorem sel_filter_eq {R C m0 m1 : Int} : (sel R C m0 m1).filter (fun p => !plEq p m0 m1) = [] := by
  unfold sel
  split
  · have : plEq ⟨m0, m1⟩ m0 m1 = true := (plEq_iff _ _ _).mpr ⟨rfl, rfl⟩
    simp [this]
  · rfl
theorem sel_len (R C a b : Int) : (sel R C a b).length ≤ 1 := by unfold sel; split <;> simp
theorem sel_one {R C a b : Int} (h : has R C a b = true) : (sel R C a b).length = 1 := by unfold sel; rw [tIn_has, if_pos h]; rfl
theorem third_ne {p0 p1 q0 q1 : Int} (h : adj p0 p1 q0 q1) : ¬ (thr p0 p1 q0 q1 = ohr p0 p1 q0 q1 ∧ thc p0 p1 q0 q1 = ohc p0 p1 q0 q1) := by
  unfold adj at h; unfold thr thc ohr ohc; omega
theorem sel_no {R C a b : Int} (h : has R C a b = false) : sel R C a b = [] := by unfold sel; rw [tIn_has, h]; rfl
theorem start_oh {R C : Int} (hR : 1 ≤ R) : has R C (ohr (-1) (-1) 0 (-1)) (ohc (-1) (-1) 0 (-1)) = false := by
  unfold has ohr ohc
  rw [decide_eq_false_iff_not]; omega
theorem start_th {R C : Int} (hR : 1 ≤ R) (hC : 1 ≤ C) : has R C (thr (-1) (-1) 0 (-1)) (thc (-1) (-1) 0 (-1)) = true := by
  unfold has thr thc
  rw [decide_eq_true_eq]; omega
theorem pair_sel {R C : Int} {s : St} (hR : 1 ≤ R) (hC : 1 ≤ C) (hadj : adj s.a s.b s.x s.y) {m0 m1 : Int} (hB : Bef R C s m0 m1) :
    (thirdsL R C s.a s.b s.x s.y 6).filter (fun p => !plEq p m0 m1) = pick1 R C s ∧ 0 < (thirdsL R C s.a s.b s.x s.y 6).length ∧ (thirdsL R C s.a s.b s.x s.y 6).length ≤ 2 ∧ ∀ p q, thirdsL R C s.a s.b s.x s.y 6 = [p, q] → plEq p m0 m1 = true → plEq q m0 m1 = true → False := by
  obtain ⟨A0, A1, B0, B1, ht, hw⟩ := thirds_sel R C s.a s.b s.x s.y hadj
  have hne := third_ne hadj
  have key : (sel R C (ohr s.a s.b s.x s.y) (ohc s.a s.b s.x s.y)).filter (fun p => !plEq p m0 m1) = [] ∧ (sel R C (thr s.a s.b s.x s.y) (thc s.a s.b s.x s.y)).filter (fun p => !plEq p m0 m1) = pick1 R C s ∧ 0 < (sel R C (thr s.a s.b s.x s.y) (thc s.a s.b s.x s.y)).length + (sel R C (ohr s.a s.b s.x s.y) (ohc s.a s.b s.x s.y)).length ∧ (¬ (thr s.a s.b s.x s.y = m0 ∧ thc s.a s.b s.x s.y = m1)) := by
    rcases hB with ⟨rfl, rfl, rfl⟩ | ⟨rfl, rfl, hh⟩
    · have h1 : ¬ (thr st0.a st0.b st0.x st0.y = -9 ∧ thc st0.a st0.b st0.x st0.y = -9) := by decide
      have h2 : sel R C (ohr st0.a st0.b st0.x st0.y) (ohc st0.a st0.b st0.x st0.y) = [] := sel_no (start_oh hR)
      have h3 : (sel R C (thr st0.a st0.b st0.x st0.y) (thc st0.a st0.b st0.x st0.y)).length = 1 := sel_one (start_th hR hC)
      exact ⟨by rw [h2]; rfl, sel_filter_ne h1, by omega, h1⟩
    · exact ⟨sel_filter_eq, sel_filter_ne hne, by rw [sel_one hh]; omega, hne⟩
  obtain ⟨k1, k2, k3, k4⟩ := key
  have l1 := sel_len R C (thr s.a s.b s.x s.y) (thc s.a s.b s.x s.y)
  have l2 := sel_len R C (ohr s.a s.b s.x s.y) (ohc s.a s.b s.x s.y)
  rw [ht]
  rcases hw with ⟨rfl, rfl, rfl, rfl⟩ | ⟨rfl, rfl, rfl, rfl⟩
  · refine ⟨by rw [List.filter_append, k1, k2, List.append_nil], by rw [List.length_append]; omega, by rw [List.length_append]; omega, ?_⟩
    intro p q he hp hq
    have hp' := (plEq_iff _ _ _).mp hp
    have hf : [p, q].filter (fun p => !plEq p m0 m1) = pick1 R C s := by rw [← he, List.filter_append, k1, k2, List.append_nil]
    have h1 : [p, q].filter (fun p => !plEq p m0 m1) = [] := by simp [hp, hq]
    rw [h1] at hf
    have h5 : sel R C (thr s.a s.b s.x s.y) (thc s.a s.b s.x s.y) = [] := hf.symm
    rw [h5] at he
    rw [List.nil_append] at he
    rw [he] at l2
    exact absurd l2 (by simp)
  · refine ⟨by rw [List.filter_append, k1, k2, List.nil_append], by rw [List.length_append]; omega, by rw [List.length_append]; omega, ?_⟩
    intro p q he hp hq
    have hf : [p, q].filter (fun p => !plEq p m0 m1) = pick1 R C s := by rw [← he, List.filter_append, k1, k2, List.nil_append]
    have h1 : [p, q].filter (fun p => !plEq p m0 m1) = [] := by simp [hp, hq]
    rw [h1] at hf
    have h5 : sel R C (thr s.a s.b s.x s.y) (thc s.a s.b s.x s.y) = [] := hf.symm
    rw [h5] at he
    rw [List.append_nil] at he
    rw [he] at l2
    exact absurd l2 (by simp)
theorem pick_none {R C : Int} {one : Int → Int → Bool} {s : St} (h : next R C one s = none) : pick1 R C s = [] := by
  unfold next at h
  split at h
  · split at h <;> cases h
  · rename_i hh
    exact sel_no (by simpa using hh)
theorem pick_some {R C : Int} {one : Int → Int → Bool} {s t : St} (h : next R C one s = some t) :
    pick1 R C s = [⟨thr s.a s.b s.x s.y, thc s.a s.b s.x s.y⟩] ∧ has R C (thr s.a s.b s.x s.y) (thc s.a s.b s.x s.y) = true ∧ ((one (thr s.a s.b s.x s.y) (thc s.a s.b s.x s.y) = true ∧ t = ⟨thr s.a s.b s.x s.y, thc s.a s.b s.x s.y, s.x, s.y⟩) ∨ (one (thr s.a s.b s.x s.y) (thc s.a s.b s.x s.y) = false ∧ t = ⟨s.a, s.b, thr s.a s.b s.x s.y, thc s.a s.b s.x s.y⟩)) := by
  unfold next at h
  split at h
  · rename_i hh
    refine ⟨by unfold pick1 sel; rw [tIn_has, if_pos hh], hh, ?_⟩
    split at h
    · rename_i h1; injection h with h; exact .inl ⟨h1, h.symm⟩
    · rename_i h1; injection h with h; exact .inr ⟨by simpa using h1, h.symm⟩
  · cases h
theorem bef_one {R C : Int} {s : St} (h : has R C s.a s.b = true) : Bef R C ⟨thr s.a s.b s.x s.y, thc s.a s.b s.x s.y, s.x, s.y⟩ s.a s.b := by
  exact .inr ⟨by unfold ohr thr thc; dsimp only; omega, by unfold ohc thr thc; dsimp only; omega, h⟩
theorem bef_two {R C : Int} {s : St} (h : has R C s.x s.y = true) : Bef R C ⟨s.a, s.b, thr s.a s.b s.x s.y, thc s.a s.b s.x s.y⟩ s.x s.y := by
  exact .inr ⟨by unfold ohr thr thc; dsimp only; omega, by unfold ohc thr; dsimp only; omega, h⟩
end Go.Proofs.Ytmfocekebenniaa.Given
