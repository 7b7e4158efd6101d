/- Plain: on a board of hexagons a path from the first to the last row and one from the first to the last column meet. For all sides. -/
namespace Go.Proofs.Ytmfocekebenniaa.Hu
set_option linter.unusedVariables false
set_option linter.unusedSimpArgs false
def adj (r c r' c' : Int) : Prop := (r' = r ∧ (c' = c - 1 ∨ c' = c + 1)) ∨ (r' = r - 1 ∧ (c' = c ∨ c' = c + 1)) ∨ (r' = r + 1 ∧ (c' = c - 1 ∨ c' = c))
theorem adj_symm {r c r' c' : Int} (h : adj r c r' c') : adj r' c' r c := by unfold adj at *; omega

/-- The step from (a, b) to (a', b') crosses the line below the row r, its upper end left of c. -/
def cr (a b a' b' r c : Int) : Bool := decide ((a = r ∧ a' = r + 1 ∧ b < c) ∨ (a' = r ∧ a = r + 1 ∧ b' < c))
/-- .. the line above the row r, its lower end left of c. -/
def cu (a b a' b' r c : Int) : Bool := decide ((a = r ∧ a' = r - 1 ∧ b < c) ∨ (a' = r ∧ a = r - 1 ∧ b' < c))

/-- Places to which places of a kind lead from the row 0. -/
inductive Down (on : Int → Int → Prop) : Int → Int → Prop
  | top {c : Int} : on 0 c → Down on 0 c
  | step {r c r' c' : Int} : Down on r c → adj r c r' c' → on r' c' → Down on r' c'
/-- Places to which places of a kind lead from the column 0. -/
inductive Right (on : Int → Int → Prop) : Int → Int → Prop
  | left {r : Int} : on r 0 → Right on r 0
  | step {r c r' c' : Int} : Right on r c → adj r c r' c' → on r' c' → Right on r' c'

theorem Down.on {on : Int → Int → Prop} {r c : Int} (h : Down on r c) : on r c := by cases h <;> assumption
theorem Right.on {on : Int → Int → Prop} {r c : Int} (h : Right on r c) : on r c := by cases h <;> assumption

/-- How often a path crosses lines, left of a place: even or odd. -/
theorem crossings {C : Int} {on : Int → Int → Prop} (hc : ∀ r c, on r c → 0 ≤ r ∧ 0 ≤ c ∧ c < C) {x y : Int} (h : Down on x y) : ∃ L U : Int → Int → Bool,
    (∀ r c, 0 ≤ r → ¬ on r c → (L r c ^^ U r c) = decide (x = r ∧ y < c)) ∧
    (∀ r c, ¬ on r c → L r c = L r (c + 1)) ∧
    (∀ r c, 0 ≤ r → ¬ on r c → ¬ on (r + 1) c → L r c = U (r + 1) c) ∧
    (∀ r c, 0 ≤ r → ¬ on r c → ¬ on (r + 1) (c - 1) → L r c = U (r + 1) (c - 1)) ∧
    (∀ r, L r 0 = false) ∧
    (∀ r, 0 ≤ r → ¬ on r (C - 1) → L r (C - 1) = decide (r < x)) := by
  induction h with
  | @top b h0 =>
    refine ⟨fun _ _ => false, fun r c => decide (r = 0 ∧ b < c), ?_, ?_, ?_, ?_, ?_, ?_⟩
    · intro r c _ _
      simp only [Bool.false_bne, decide_eq_decide]
      omega
    · intros; rfl
    · intro r c h _ _; simp; omega
    · intro r c h _ _; simp; omega
    · intros; rfl
    · intro r h _; simp; omega
  | @step a b a' b' hd hadj hon ih =>
    obtain ⟨L, U, h1, h2, h3, h4, h5, h6⟩ := ih
    have hon0 := hd.on
    have hc0 := hc a b hon0
    have hc1 := hc a' b' hon
    have key : ∀ r c, ¬ on r c → ¬ (r = a ∧ c = b) ∧ ¬ (r = a' ∧ c = b') := by
      intro r c hn
      refine ⟨?_, ?_⟩
      · rintro ⟨rfl, rfl⟩; exact hn hon0
      · rintro ⟨rfl, rfl⟩; exact hn hon
    unfold adj at hadj
    refine ⟨fun r c => L r c ^^ cr a b a' b' r c, fun r c => U r c ^^ cu a b a' b' r c, ?_, ?_, ?_, ?_, ?_, ?_⟩
    · intro r c hr hn
      have hk := key r c hn
      have e : ((L r c ^^ cr a b a' b' r c) ^^ (U r c ^^ cu a b a' b' r c)) = ((L r c ^^ U r c) ^^ (cr a b a' b' r c ^^ cu a b a' b' r c)) := by
        cases L r c <;> cases U r c <;> cases cr a b a' b' r c <;> cases cu a b a' b' r c <;> rfl
      show ((L r c ^^ cr a b a' b' r c) ^^ (U r c ^^ cu a b a' b' r c)) = _
      rw [e, h1 r c hr hn]
      unfold cr cu
      have t : ∀ (p q s t : Prop) [Decidable p] [Decidable q] [Decidable s] [Decidable t], (p → q → s → t) → (p → ¬ q → ¬ s → t) → (¬ p → q → ¬ s → t) → (¬ p → ¬ q → s → t) → (p → q → ¬ s → ¬ t) → (p → ¬ q → s → ¬ t) → (¬ p → q → s → ¬ t) → (¬ p → ¬ q → ¬ s → ¬ t) → (decide p ^^ (decide q ^^ decide s)) = decide t := by
        intro p q s t _ _ _ _ a1 a2 a3 a4 a5 a6 a7 a8
        by_cases hp : p <;> by_cases hq : q <;> by_cases hs : s <;> by_cases ht : t <;> simp [hp, hq, hs, ht] <;> simp_all
      apply t <;> omega
    · intro r c hn
      have hk := key r c hn
      show (L r c ^^ cr a b a' b' r c) = (L r (c + 1) ^^ cr a b a' b' r (c + 1))
      rw [h2 r c hn]
      congr 1
      unfold cr
      simp only [decide_eq_decide]
      omega
    · intro r c hr hn hn'
      have hk := key r c hn
      have hk' := key _ _ hn'
      show (L r c ^^ cr a b a' b' r c) = (U (r + 1) c ^^ cu a b a' b' (r + 1) c)
      rw [h3 r c hr hn hn']
      congr 1
      unfold cr cu
      simp only [decide_eq_decide]
      omega
    · intro r c hr hn hn'
      have hk := key r c hn
      have hk' := key _ _ hn'
      show (L r c ^^ cr a b a' b' r c) = (U (r + 1) (c - 1) ^^ cu a b a' b' (r + 1) (c - 1))
      rw [h4 r c hr hn hn']
      congr 1
      unfold cr cu
      simp only [decide_eq_decide]
      omega
    · intro r
      show (L r 0 ^^ cr a b a' b' r 0) = false
      rw [h5 r]
      unfold cr
      simp only [Bool.false_bne, decide_eq_false_iff_not]
      omega
    · intro r hr hn
      have hk := key _ _ hn
      show (L r (C - 1) ^^ cr a b a' b' r (C - 1)) = _
      rw [h6 r hr hn]
      unfold cr
      by_cases p1 : r < a <;> by_cases p2 : r < a' <;> by_cases p3 : ((a = r ∧ a' = r + 1 ∧ b < C - 1) ∨ (a' = r ∧ a = r + 1 ∧ b' < C - 1)) <;> simp only [p1, p2, p3, decide_true, decide_false, Bool.xor_true, Bool.xor_false, Bool.not_true, Bool.not_false] <;> omega

/-- Both cannot be. -/
theorem not_both {R C : Int} {on on2 : Int → Int → Prop} (hc : ∀ r c, on r c → 0 ≤ r ∧ 0 ≤ c ∧ c < C) (hd : ∀ r c, on2 r c → ¬ on r c) (hr : ∀ r c, on2 r c → 0 ≤ r ∧ r < R) {y : Int} (h : Down on (R - 1) y) {x : Int} (h2 : Right on2 x (C - 1)) : False := by
  obtain ⟨L, U, h1, hh, h3, h4, h5, h6⟩ := crossings hc h
  have hon := h.on
  have hy := hc _ _ hon
  have side : ∀ r c, Right on2 r c → U r c = false := by
    intro r c hR
    induction hR with
    | @left r h0 =>
      have e := h1 r 0 (hr _ _ h0).1 (hd _ _ h0)
      rw [h5 r] at e
      simp only [Bool.false_bne] at e
      rw [e, decide_eq_false_iff_not]
      omega
    | @step a b a' b' hR hadj h0 ih =>
      have h9 := hR.on
      have n1 := hd _ _ h9
      have n2 := hd _ _ h0
      have r1 := hr _ _ h9
      have r2 := hr _ _ h0
      have e1 := h1 a b r1.1 n1
      have e2 := h1 a' b' r2.1 n2
      have key : ∀ r c, ¬ on r c → ¬ (r = R - 1 ∧ c = y) := by
        rintro r c hn ⟨rfl, rfl⟩
        exact hn hon
      have k1 := key _ _ n1
      have k2 := key _ _ n2
      rw [ih] at e1
      simp only [Bool.bne_false] at e1
      unfold adj at hadj
      rcases hadj with ⟨rfl, rfl | rfl⟩ | ⟨rfl, rfl | rfl⟩ | ⟨rfl, rfl | rfl⟩
      · have := hh a' (b - 1) n2
        rw [show b - 1 + 1 = b by omega, e1] at this
        rw [this] at e2
        by_cases p1 : (R - 1 = a' ∧ y < b) <;> by_cases p2 : (R - 1 = a' ∧ y < b - 1)
        · simpa [p1, p2] using e2
        · exfalso; omega
        · exfalso; omega
        · simpa [p1, p2] using e2
      · have := hh a' b n1
        rw [e1] at this
        rw [← this] at e2
        by_cases p1 : (R - 1 = a' ∧ y < b) <;> by_cases p2 : (R - 1 = a' ∧ y < b + 1)
        · simpa [p1, p2] using e2
        · exfalso; omega
        · exfalso; omega
        · simpa [p1, p2] using e2
      · have := h3 (a - 1) b' r2.1 n2 (by rw [show a - 1 + 1 = a by omega]; exact n1)
        rw [show a - 1 + 1 = a by omega, ih] at this
        rw [this] at e2
        simp only [Bool.false_bne] at e2
        rw [e2, decide_eq_false_iff_not]
        omega
      · have := h4 (a - 1) (b + 1) r2.1 n2 (by rw [show a - 1 + 1 = a by omega, show b + 1 - 1 = b by omega]; exact n1)
        rw [show a - 1 + 1 = a by omega, show b + 1 - 1 = b by omega, ih] at this
        rw [this] at e2
        simp only [Bool.false_bne] at e2
        rw [e2, decide_eq_false_iff_not]
        omega
      · have := h4 a b r1.1 n1 n2
        rw [← this, e1, decide_eq_false_iff_not]
        omega
      · have := h3 a b' r1.1 n1 n2
        rw [← this, e1, decide_eq_false_iff_not]
        omega
  have s := side _ _ h2
  have hx := h2.on
  have n := hd _ _ hx
  have r := hr _ _ hx
  have e := h1 x (C - 1) r.1 n
  rw [s, h6 x r.1 n] at e
  have k : ¬ (x = R - 1 ∧ C - 1 = y) := by
    rintro ⟨rfl, rfl⟩
    exact n hon
  by_cases p1 : x < R - 1 <;> by_cases p2 : (R - 1 = x ∧ y < C - 1)
  · omega
  · simp only [p1, p2] at e; simp at e
  · simp only [p1, p2] at e; simp at e
  · omega
end Go.Proofs.Ytmfocekebenniaa.Hu
