/- Plain: costs of paths in graphs, and simple paths. For all graphs. -/
namespace Go.Proofs.Ytmfocekebenniaa.Hg
set_option linter.unusedVariables false
set_option linter.unusedSimpArgs false
section
variable (nb : Nat → Nat → Prop) (st ok : Nat → Prop) (cost : Nat → Nat)
/-- A path of a cost leads to a place. -/
inductive P : Nat → Nat → Prop
  | start {i : Nat} : st i → ok i → P (cost i) i
  | step {c j i : Nat} : P c j → nb j i → ok i → P (c + cost i) i
/-- The same with the places of the path, its end first. -/
inductive PL : List Nat → Nat → Prop
  | one {i : Nat} : st i → ok i → PL [i] (cost i)
  | cons {i j : Nat} {l : List Nat} {c : Nat} : PL (j :: l) c → nb j i → ok i → PL (i :: j :: l) (c + cost i)
end
section
variable {nb : Nat → Nat → Prop} {st ok : Nat → Prop} {cost : Nat → Nat}
theorem PL.toP {l : List Nat} {c : Nat} (h : PL nb st ok cost l c) : ∀ i t, l = i :: t → P nb st ok cost c i := by
  induction h with
  | one h1 h2 => rintro _ _ ⟨rfl, _⟩; exact .start h1 h2
  | cons hp h1 h2 ih => rintro _ _ ⟨rfl, _⟩; exact .step (ih _ _ rfl) h1 h2
theorem PL.suffix {l : List Nat} {c : Nat} (h : PL nb st ok cost l c) (hn : l.Nodup) : ∀ i, i ∈ l → ∃ l' c', PL nb st ok cost (i :: l') c' ∧ c' ≤ c ∧ (i :: l').Nodup := by
  induction h with
  | @one i h1 h2 =>
    intro j hj
    obtain rfl : j = i := by simpa using hj
    exact ⟨[], _, .one h1 h2, Nat.le_refl _, hn⟩
  | @cons i j l c hp h1 h2 ih =>
    intro x hx
    rcases List.mem_cons.mp hx with rfl | hx
    · exact ⟨_, _, .cons hp h1 h2, Nat.le_refl _, hn⟩
    · obtain ⟨l', c', a, b, d⟩ := ih (List.nodup_cons.mp hn).2 x hx
      exact ⟨l', c', a, by omega, d⟩
theorem P.simple {c i : Nat} (h : P nb st ok cost c i) : ∃ l c', PL nb st ok cost (i :: l) c' ∧ c' ≤ c ∧ (i :: l).Nodup := by
  induction h with
  | start h1 h2 => exact ⟨[], _, .one h1 h2, Nat.le_refl _, by simp⟩
  | @step c j i hp h1 h2 ih =>
    obtain ⟨l, c', a, b, d⟩ := ih
    by_cases hm : i ∈ j :: l
    · obtain ⟨l', c2, a2, b2, d2⟩ := a.suffix d i hm
      exact ⟨l', c2, a2, by omega, d2⟩
    · exact ⟨j :: l, c' + cost i, .cons a h1 h2, by omega, List.nodup_cons.mpr ⟨hm, d⟩⟩
theorem PL.okAll {l : List Nat} {c : Nat} (h : PL nb st ok cost l c) : ∀ i ∈ l, ok i := by
  induction h with
  | one h1 h2 => intro i hi; obtain rfl := List.mem_singleton.mp hi; exact h2
  | cons hp h1 h2 ih =>
    intro x hx
    rcases List.mem_cons.mp hx with rfl | hx
    · exact h2
    · exact ih x hx
theorem P.okEnd {c i : Nat} (h : P nb st ok cost c i) : ok i := by cases h <;> assumption
/-- The cost is the sum of the costs of places. -/
theorem PL.sum {l : List Nat} {c : Nat} (h : PL nb st ok cost l c) : c = (l.map cost).foldr (· + ·) 0 := by
  induction h with
  | one h1 h2 => simp
  | cons hp h1 h2 ih => simp only [List.map_cons, List.foldr_cons] at ih ⊢; omega
theorem PL.le_length (hc : ∀ i, ok i → cost i ≤ 1) {l : List Nat} {c : Nat} (h : PL nb st ok cost l c) : c ≤ l.length := by
  induction h with
  | one h1 h2 => simpa using hc _ h2
  | cons hp h1 h2 ih => have := hc _ h2; simp only [List.length_cons] at ih ⊢; omega
end

theorem nodup_length : ∀ (n : Nat) (l : List Nat), l.Nodup → (∀ x ∈ l, x < n) → l.length ≤ n := by
  intro n
  induction n with
  | zero =>
    intro l _ h
    cases l with
    | nil => simp
    | cons x t => exact absurd (h x (by simp)) (Nat.not_lt_zero _)
  | succ n ih =>
    intro l hn h
    have h1 : (l.filter (· ≠ n)).length ≤ n := by
      apply ih
      · exact hn.filter _
      · intro x hx
        rw [List.mem_filter] at hx
        have := h x hx.1
        have h2 : x ≠ n := by simpa using hx.2
        omega
    have h2 : l.length ≤ (l.filter (· ≠ n)).length + 1 := by
      have e : ∀ (l : List Nat), l.Nodup → l.length ≤ (l.filter (· ≠ n)).length + 1 := by
        intro l
        induction l with
        | nil => simp
        | cons x t iht =>
          intro hn
          rw [List.nodup_cons] at hn
          by_cases hx : x = n
          · subst hx
            have : t.filter (· ≠ x) = t := by
              rw [List.filter_eq_self]
              intro a ha
              have : a ≠ x := fun e => hn.1 (e ▸ ha)
              simpa using this
            simp only [List.filter_cons, ne_eq, not_true_eq_false, decide_false, Bool.false_eq_true, if_false, List.length_cons]
            have h3 : (t.filter fun a => !decide (a = x)) = t := by simpa using this
            simp at this ⊢
            rw [List.filter_eq_self.mpr (by simpa using this)]
            exact Nat.le_refl _
          · have := iht hn.2
            simp only [List.filter_cons, ne_eq, hx, not_false_eq_true, decide_true, if_true, List.length_cons]
            simpa using this
      exact e l hn
    omega

/-- A path that need not come back to a place costs at most the number of places. -/
theorem P.bound {nb : Nat → Nat → Prop} {st ok : Nat → Prop} {cost : Nat → Nat} {n : Nat} (hc : ∀ i, ok i → cost i ≤ 1) (hn : ∀ i, ok i → i < n) {c i : Nat} (h : P nb st ok cost c i) :
    ∃ l c', PL nb st ok cost (i :: l) c' ∧ c' ≤ c ∧ c' ≤ n ∧ (i :: l).length ≤ n ∧ (i :: l).Nodup := by
  obtain ⟨l, c', a, b, d⟩ := h.simple
  have := nodup_length n _ d (fun x hx => hn x (a.okAll x hx))
  have := a.le_length hc
  exact ⟨l, c', a, b, by omega, by omega, d⟩

/-- Two numbers below n + 1 places, of n values, are alike. -/
theorem pigeon (f : Nat → Nat) (n : Nat) (h : ∀ i, i ≤ n → f i < n) : ∃ i j, i < j ∧ j ≤ n ∧ f i = f j := by
  apply Classical.byContradiction
  intro hne
  have hn : ((List.range (n + 1)).map f).Nodup := by
    rw [List.nodup_iff_pairwise_ne] 
    rw [List.pairwise_map]
    refine List.Pairwise.imp_of_mem ?_ (List.pairwise_lt_range)
    intro a b ha hb hab e
    exact hne ⟨a, b, hab, by have := List.mem_range.mp hb; omega, e⟩
  have := nodup_length n _ hn (fun x hx => by
    obtain ⟨i, hi, rfl⟩ := List.mem_map.mp hx
    exact h i (by have := List.mem_range.mp hi; omega))
  simp at this
  omega
end Go.Proofs.Ytmfocekebenniaa.Hg
