/- Plain: who wins by the walk. For all sides and full boards. -/
import Derived.Test.YtmfocekebenniaaHw
namespace Go.Proofs.Ytmfocekebenniaa.He
open Go.Proofs.Ytmfocekebenniaa.Hu Go.Proofs.Ytmfocekebenniaa.Hw
set_option linter.unusedVariables false
set_option linter.unusedSimpArgs false
section
variable (R C : Int) (own : Int → Int → Bool)
def inB (r c : Int) : Bool := decide (0 ≤ r ∧ r < R ∧ 0 ≤ c ∧ c < C)
/-- The colour of a place of the board with its rim: has the player 1 it. -/
def one (r c : Int) : Bool := if inB R C r c then own r c else decide ((r = -1 ∧ c < C) ∨ (r = R ∧ 0 ≤ c))
def on1 (r c : Int) : Prop := (0 ≤ r ∧ r < R ∧ 0 ≤ c ∧ c < C) ∧ own r c = true
def on2 (r c : Int) : Prop := (0 ≤ r ∧ r < R ∧ 0 ≤ c ∧ c < C) ∧ own r c = false
def Won1 : Prop := ∃ y, Down (on1 R C own) (R - 1) y
def Won2 : Prop := ∃ x, Right (on2 R C own) x (C - 1)
end
section
variable {R C : Int} {own : Int → Int → Bool}
theorem one_rim {r c : Int} (h : ¬ (0 ≤ r ∧ r < R ∧ 0 ≤ c ∧ c < C)) : one R C own r c = true ↔ ((r = -1 ∧ c < C) ∨ (r = R ∧ 0 ≤ c)) := by
  unfold one inB
  rw [if_neg (by simpa using h), decide_eq_true_eq]
theorem one_in {r c : Int} (h : 0 ≤ r ∧ r < R ∧ 0 ≤ c ∧ c < C) : one R C own r c = own r c := by
  unfold one inB
  rw [if_pos (by simpa using h)]
theorem two_rim {r c : Int} (h : ¬ (0 ≤ r ∧ r < R ∧ 0 ≤ c ∧ c < C)) : one R C own r c = false ↔ ¬ ((r = -1 ∧ c < C) ∨ (r = R ∧ 0 ≤ c)) := by
  rw [← one_rim (own := own) h]
  simp

theorem start_good (hR : 1 ≤ R) (hC : 1 ≤ C) : Good R C (one R C own) start ∧ prev R C (one R C own) start = none := by
  refine ⟨⟨?_, ?_, ?_, ?_, ?_⟩, ?_⟩
  · simp only [has, start]; simp; omega
  · simp only [has, start]; simp; omega
  · show one R C own (-1) (-1) = true
    rw [one_rim (by omega)]; omega
  · show one R C own 0 (-1) = false
    rw [two_rim (by omega)]; omega
  · show adj (-1) (-1) 0 (-1)
    unfold adj; omega
  · unfold prev
    rw [if_neg]
    intro hh
    have hh' : has R C (-1 + (0 - -1) + (-1 - -1)) (-1 - (0 - -1)) = true := hh
    unfold has at hh'
    rw [decide_eq_true_eq] at hh'
    omega

/-- Where the walk ends. -/
theorem end_at (_hR : 1 ≤ R) (hC : 1 ≤ C) {s : St} (h : Good R C (one R C own) s) (hn : next R C (one R C own) s = none) :
    (s.a = -1 ∧ s.b = C - 1 ∧ s.x = -1 ∧ s.y = C) ∨ (s.a = R ∧ s.b = 0 ∧ s.x = R ∧ s.y = -1) := by
  obtain ⟨h1, h2, h3, h4, h5⟩ := h
  obtain ⟨a, b, x, y⟩ := s
  dsimp only at *
  unfold next at hn
  split at hn
  case isTrue => split at hn <;> cases hn
  rename_i hw
  unfold has at h1 h2 hw
  simp only [decide_eq_true_eq] at h1 h2 hw
  unfold thr thc at hw
  have c1 : (0 ≤ a ∧ a < R ∧ 0 ≤ b ∧ b < C) ∨ ((a = -1 ∧ b < C) ∨ (a = R ∧ 0 ≤ b)) := by
    by_cases e : (0 ≤ a ∧ a < R ∧ 0 ≤ b ∧ b < C)
    · exact .inl e
    · exact .inr ((one_rim e).mp h3)
  have c2 : (0 ≤ x ∧ x < R ∧ 0 ≤ y ∧ y < C) ∨ ¬ ((x = -1 ∧ y < C) ∨ (x = R ∧ 0 ≤ y)) := by
    by_cases e : (0 ≤ x ∧ x < R ∧ 0 ≤ y ∧ y < C)
    · exact .inl e
    · exact .inr ((two_rim e).mp h4)
  unfold adj at h5
  rcases h5 with ⟨rfl, rfl | rfl⟩ | ⟨rfl, rfl | rfl⟩ | ⟨rfl, rfl | rfl⟩ <;> omega

def T1 (R C : Int) (own : Int → Int → Bool) (s : St) : Prop := s.a = -1 ∨ ((0 ≤ s.a ∧ s.a < R ∧ 0 ≤ s.b ∧ s.b < C) ∧ Down (on1 R C own) s.a s.b) ∨ Won1 R C own
def T2 (R C : Int) (own : Int → Int → Bool) (s : St) : Prop := s.y = -1 ∨ ((0 ≤ s.x ∧ s.x < R ∧ 0 ≤ s.y ∧ s.y < C) ∧ Right (on2 R C own) s.x s.y) ∨ Won2 R C own

theorem next_T (hR : 1 ≤ R) (hC : 1 ≤ C) {s t : St} (h : Good R C (one R C own) s) (h1 : T1 R C own s) (h2 : T2 R C own s) (hn : next R C (one R C own) s = some t) : T1 R C own t ∧ T2 R C own t := by
  have hg := (next_good h hn).1
  obtain ⟨g1, g2, g3, g4, g5⟩ := h
  unfold next at hn
  split at hn
  case isFalse => cases hn
  rename_i hw
  have hadj1 : adj s.a s.b (thr s.a s.b s.x s.y) (thc s.a s.b s.x s.y) := by
    unfold adj at *; unfold thr thc; omega
  have hadj2 : adj s.x s.y (thr s.a s.b s.x s.y) (thc s.a s.b s.x s.y) := by
    unfold adj at *; unfold thr thc; omega
  generalize thr s.a s.b s.x s.y = u at *
  generalize thc s.a s.b s.x s.y = v at *
  unfold has at g1 g2 hw
  simp only [decide_eq_true_eq] at g1 g2 hw
  split at hn
  · rename_i h1w
    cases hn
    refine ⟨?_, h2⟩
    by_cases e : (0 ≤ u ∧ u < R ∧ 0 ≤ v ∧ v < C)
    · rw [one_in e] at h1w
      rcases h1 with ha | ⟨hin, hd⟩ | hwon
      · refine .inr (.inl ⟨e, ?_⟩)
        have : u = 0 := by unfold adj at hadj1; omega
        subst this
        exact .top ⟨e, h1w⟩
      · exact .inr (.inl ⟨e, .step hd hadj1 ⟨e, h1w⟩⟩)
      · exact .inr (.inr hwon)
    · have hc := (one_rim e).mp h1w
      rcases h1 with ha | ⟨hin, hd⟩ | hwon
      · left
        show u = -1
        unfold adj at hadj1; omega
      · by_cases hu : u = -1
        · exact .inl hu
        · refine .inr (.inr ?_)
          have : s.a = R - 1 := by unfold adj at hadj1; omega
          rw [this] at hd
          exact ⟨_, hd⟩
      · exact .inr (.inr hwon)
  · rename_i h1w
    have h1w' : one R C own u v = false := by simpa using h1w
    cases hn
    refine ⟨h1, ?_⟩
    by_cases e : (0 ≤ u ∧ u < R ∧ 0 ≤ v ∧ v < C)
    · rw [one_in e] at h1w'
      rcases h2 with ha | ⟨hin, hd⟩ | hwon
      · refine .inr (.inl ⟨e, ?_⟩)
        have : v = 0 := by unfold adj at hadj2; omega
        subst this
        exact .left ⟨e, h1w'⟩
      · exact .inr (.inl ⟨e, .step hd hadj2 ⟨e, h1w'⟩⟩)
      · exact .inr (.inr hwon)
    · have hc := (two_rim e).mp h1w'
      rcases h2 with ha | ⟨hin, hd⟩ | hwon
      · left
        show v = -1
        unfold adj at hadj2; omega
      · by_cases hu : v = -1
        · exact .inl hu
        · refine .inr (.inr ?_)
          have : s.y = C - 1 := by unfold adj at hadj2; omega
          rw [this] at hd
          exact ⟨_, hd⟩
      · exact .inr (.inr hwon)

/-- The walk ends, and tells who has won. -/
theorem walk_ends (hR : 1 ≤ R) (hC : 1 ≤ C) : ∃ k s, k < ((R + 2) * (C + 2)).toNat * ((R + 2) * (C + 2)).toNat ∧ seq R C (one R C own) start k = some s ∧ Good R C (one R C own) s ∧ next R C (one R C own) s = none ∧
    ((s.a = -1 ∧ s.b = C - 1 ∧ s.x = -1 ∧ s.y = C ∧ Won2 R C own) ∨ (s.a = R ∧ s.b = 0 ∧ s.x = R ∧ s.y = -1 ∧ Won1 R C own)) := by
  obtain ⟨hg, hp⟩ := start_good (own := own) hR hC
  have he := ends hR hC hg hp
  generalize ((R + 2) * (C + 2)).toNat * ((R + 2) * (C + 2)).toNat = N at he
  have hT : ∀ k t, seq R C (one R C own) start k = some t → T1 R C own t ∧ T2 R C own t := by
    intro k
    induction k with
    | zero => intro t ht; cases ht; exact ⟨.inl rfl, .inl rfl⟩
    | succ k ih =>
      intro t ht
      obtain ⟨s, hs, hn⟩ := Option.bind_eq_some_iff.mp ht
      exact next_T hR hC (seq_good hg k s hs) (ih s hs).1 (ih s hs).2 hn
  have hfirst : ∀ n, seq R C (one R C own) start n = none → ∃ k s, k < n ∧ seq R C (one R C own) start k = some s ∧ next R C (one R C own) s = none := by
    intro n
    induction n with
    | zero => intro h; cases h
    | succ n ih =>
      intro h
      cases hs : seq R C (one R C own) start n with
      | none =>
        obtain ⟨k, s, a, b⟩ := ih hs
        exact ⟨k, s, by omega, b⟩
      | some s =>
        refine ⟨n, s, by omega, hs, ?_⟩
        unfold seq at h
        rw [hs] at h
        exact h
  obtain ⟨k, s, hk, hs, hn⟩ := hfirst N he
  have gs := seq_good hg k s hs
  refine ⟨k, s, hk, hs, gs, hn, ?_⟩
  obtain ⟨t1, t2⟩ := hT k s hs
  rcases end_at hR hC gs hn with ⟨a, b, c, d⟩ | ⟨a, b, c, d⟩
  · left
    refine ⟨a, b, c, d, ?_⟩
    rcases t2 with h | ⟨h, _⟩ | h
    · omega
    · omega
    · exact h
  · right
    refine ⟨a, b, c, d, ?_⟩
    rcases t1 with h | ⟨h, _⟩ | h
    · omega
    · omega
    · exact h
theorem not_both_won : Won1 R C own → Won2 R C own → False := by
  rintro ⟨y, h1⟩ ⟨x, h2⟩
  refine not_both (R := R) (C := C) (on := on1 R C own) (on2 := on2 R C own) ?_ ?_ ?_ h1 h2
  · intro r c h; exact ⟨h.1.1, h.1.2.2⟩
  · intro r c h h'; exact absurd (h'.2.symm.trans h.2) (by simp)
  · intro r c h; exact ⟨h.1.1, h.1.2.1⟩
end
end Go.Proofs.Ytmfocekebenniaa.He
