/- Plain: on a full board of hexagons with its rim a walk between both players' places ends, and one of them has won. For all sides. -/
import Derived.Test.YtmfocekebenniaaHu
import Derived.Test.YtmfocekebenniaaHg
namespace Go.Proofs.Ytmfocekebenniaa.Hw
open Go.Proofs.Ytmfocekebenniaa.Hu
set_option linter.unusedVariables false
set_option linter.unusedSimpArgs false
/-- The place right behind the step from p to q, turned by a sixth. -/
def thr (a b _x y : Int) : Int := a - (y - b)
def thc (a b x y : Int) : Int := b + (x - a) + (y - b)
/-- The other one. -/
def ohr (a b x y : Int) : Int := a + (x - a) + (y - b)
def ohc (a b x _y : Int) : Int := b - (x - a)

structure St where
  a : Int
  b : Int
  x : Int
  y : Int
deriving DecidableEq

section
variable (R C : Int) (one : Int → Int → Bool)
def has (r c : Int) : Bool := decide (-1 ≤ r ∧ r ≤ R ∧ -1 ≤ c ∧ c ≤ C)
/-- One step of the walk: the door is (a, b) of the player 1 and (x, y) of the player 2. -/
def next (s : St) : Option St :=
  if has R C (thr s.a s.b s.x s.y) (thc s.a s.b s.x s.y) then
    (if one (thr s.a s.b s.x s.y) (thc s.a s.b s.x s.y) then some ⟨thr s.a s.b s.x s.y, thc s.a s.b s.x s.y, s.x, s.y⟩ else some ⟨s.a, s.b, thr s.a s.b s.x s.y, thc s.a s.b s.x s.y⟩)
  else none
def prev (s : St) : Option St :=
  if has R C (ohr s.a s.b s.x s.y) (ohc s.a s.b s.x s.y) then
    (if one (ohr s.a s.b s.x s.y) (ohc s.a s.b s.x s.y) then some ⟨ohr s.a s.b s.x s.y, ohc s.a s.b s.x s.y, s.x, s.y⟩ else some ⟨s.a, s.b, ohr s.a s.b s.x s.y, ohc s.a s.b s.x s.y⟩)
  else none
def Good (s : St) : Prop := has R C s.a s.b = true ∧ has R C s.x s.y = true ∧ one s.a s.b = true ∧ one s.x s.y = false ∧ adj s.a s.b s.x s.y
def start : St := ⟨-1, -1, 0, -1⟩
end
section
variable {R C : Int} {one : Int → Int → Bool}
theorem next_good {s t : St} (h : Good R C one s) (hn : next R C one s = some t) : Good R C one t ∧ prev R C one t = some s := by
  obtain ⟨h1, h2, h3, h4, h5⟩ := h
  unfold next at hn
  split at hn
  case isFalse => cases hn
  rename_i hw
  split at hn
  · rename_i h1w
    cases hn
    have e1 : ohr (thr s.a s.b s.x s.y) (thc s.a s.b s.x s.y) s.x s.y = s.a := by unfold ohr thr thc; omega
    have e2 : ohc (thr s.a s.b s.x s.y) (thc s.a s.b s.x s.y) s.x s.y = s.b := by unfold ohc thr thc; omega
    refine ⟨⟨hw, h2, h1w, h4, ?_⟩, ?_⟩
    · unfold adj at *; unfold thr thc; dsimp only; omega
    · unfold prev; dsimp only; rw [e1, e2, if_pos h1, if_pos h3]
  · rename_i h1w
    cases hn
    have e1 : ohr s.a s.b (thr s.a s.b s.x s.y) (thc s.a s.b s.x s.y) = s.x := by unfold ohr thr thc; omega
    have e2 : ohc s.a s.b (thr s.a s.b s.x s.y) (thc s.a s.b s.x s.y) = s.y := by unfold ohc thr; omega
    refine ⟨⟨h1, hw, h3, by simpa using h1w, ?_⟩, ?_⟩
    · unfold adj at *; unfold thr thc; dsimp only; omega
    · unfold prev; dsimp only; rw [e1, e2, if_pos h2, if_neg (by simp [h4])]

/-- The states of the walk. -/
def seq (R C : Int) (one : Int → Int → Bool) (s0 : St) : Nat → Option St
  | 0 => some s0
  | k + 1 => (seq R C one s0 k).bind (next R C one)

theorem seq_good {s0 : St} (h : Good R C one s0) : ∀ k t, seq R C one s0 k = some t → Good R C one t := by
  intro k
  induction k with
  | zero => intro t ht; cases ht; exact h
  | succ k ih =>
    intro t ht
    obtain ⟨s, hs, hn⟩ := Option.bind_eq_some_iff.mp ht
    exact (next_good (ih s hs) hn).1
theorem seq_less {s0 : St} {k : Nat} (h : (seq R C one s0 k).isSome) : ∀ j, j ≤ k → (seq R C one s0 j).isSome := by
  induction k with
  | zero => intro j hj; obtain rfl : j = 0 := (by omega); exact h
  | succ k ih =>
    intro j hj
    by_cases e : j = k + 1
    · subst e; exact h
    · refine ih ?_ j (by omega)
      unfold seq at h
      cases hs : seq R C one s0 k with
      | none => rw [hs] at h; cases h
      | some t => rfl
theorem seq_inj {s0 : St} (h : Good R C one s0) (hp : prev R C one s0 = none) : ∀ i j t, seq R C one s0 i = some t → seq R C one s0 j = some t → i = j := by
  intro i
  induction i with
  | zero =>
    intro j t hi hj
    cases hi
    cases j with
    | zero => rfl
    | succ j =>
      obtain ⟨s, hs, hn⟩ := Option.bind_eq_some_iff.mp hj
      have := (next_good (seq_good h j s hs) hn).2
      rw [hp] at this; cases this
  | succ i ih =>
    intro j t hi hj
    obtain ⟨s, hs, hn⟩ := Option.bind_eq_some_iff.mp hi
    have e1 := (next_good (seq_good h i s hs) hn).2
    cases j with
    | zero => cases hj; rw [hp] at e1; cases e1
    | succ j =>
      obtain ⟨s', hs', hn'⟩ := Option.bind_eq_some_iff.mp hj
      have e2 := (next_good (seq_good h j s' hs') hn').2
      rw [e1] at e2
      cases e2
      rw [ih j s hs hs']

/-- The number of a state. -/
def code (C : Int) (M : Nat) (s : St) : Nat := (((C + 2) * (s.a + 1) + (s.b + 1)).toNat) * M + ((C + 2) * (s.x + 1) + (s.y + 1)).toNat

theorem place_lt {R C : Int} (hC : 1 ≤ C) {r c : Int} (h : has R C r c = true) : 0 ≤ (C + 2) * (r + 1) + (c + 1) ∧ (C + 2) * (r + 1) + (c + 1) < (R + 2) * (C + 2) := by
  unfold has at h
  rw [decide_eq_true_eq] at h
  obtain ⟨a, b, c1, d⟩ := h
  have h1 : 0 ≤ (C + 2) * (r + 1) := Int.mul_nonneg (by omega) (by omega)
  have h2 : (C + 2) * (r + 1) ≤ (C + 2) * (R + 1) := Int.mul_le_mul_of_nonneg_left (by omega) (by omega)
  have h3 : (R + 2) * (C + 2) = (C + 2) * (R + 1) + (C + 2) := by rw [Int.mul_comm, show R + 2 = (R + 1) + 1 by omega, Int.mul_add, Int.mul_one]
  omega
theorem place_inj {C : Int} (hC : 1 ≤ C) {r c r' c' : Int} (h1 : -1 ≤ c) (h2 : c ≤ C) (h3 : -1 ≤ c') (h4 : c' ≤ C) (h : (C + 2) * (r + 1) + (c + 1) = (C + 2) * (r' + 1) + (c' + 1)) : r = r' ∧ c = c' := by
  have e : (C + 2) * (r - r') = c' - c := by
    have : (C + 2) * (r - r') = (C + 2) * (r + 1) - (C + 2) * (r' + 1) := by rw [← Int.mul_sub]; congr 1; omega
    omega
  have hr : r - r' = 0 := by
    apply Classical.byContradiction
    intro hne
    rcases Int.lt_or_gt_of_ne hne with hl | hg
    · have := Int.mul_le_mul_of_nonneg_left (show r - r' ≤ -1 by omega) (show 0 ≤ C + 2 by omega)
      rw [e] at this
      omega
    · have := Int.mul_le_mul_of_nonneg_left (show 1 ≤ r - r' by omega) (show 0 ≤ C + 2 by omega)
      rw [e] at this
      omega
  rw [hr, Int.mul_zero] at e
  omega

/-- The walk ends before so many steps. -/
theorem ends (hR : 1 ≤ R) (hC : 1 ≤ C) {s0 : St} (h : Good R C one s0) (hp : prev R C one s0 = none) : seq R C one s0 (((R + 2) * (C + 2)).toNat * ((R + 2) * (C + 2)).toNat) = none := by
  obtain ⟨M, hM⟩ : ∃ M : Nat, ((R + 2) * (C + 2)).toNat = M := ⟨_, rfl⟩
  have hMz : (R + 2) * (C + 2) = (M : Int) := by
    have : 0 ≤ (R + 2) * (C + 2) := Int.mul_nonneg (by omega) (by omega)
    omega
  rw [hM]
  cases hs : seq R C one s0 (M * M) with
  | none => rfl
  | some t0 =>
    exfalso
    have hall := seq_less (R := R) (C := C) (one := one) (s0 := s0) (k := M * M) (by rw [hs]; rfl)
    have hget : ∀ j, j ≤ M * M → seq R C one s0 j = some ((seq R C one s0 j).getD s0) := by
      intro j hj
      have := hall j hj
      cases hh : seq R C one s0 j with
      | none => rw [hh] at this; cases this
      | some t => rfl
    obtain ⟨i, j, hij, hjn, he⟩ := Go.Proofs.Ytmfocekebenniaa.Hg.pigeon (fun j => code C M ((seq R C one s0 j).getD s0)) (M * M) (by
      intro j hj
      have g := seq_good h j _ (hget j hj)
      have p1 := place_lt hC g.1
      have p2 := place_lt hC g.2.1
      rw [hMz] at p1 p2
      generalize (seq R C one s0 j).getD s0 = s at p1 p2
      show (((C + 2) * (s.a + 1) + (s.b + 1)).toNat) * M + ((C + 2) * (s.x + 1) + (s.y + 1)).toNat < M * M
      generalize (C + 2) * (s.a + 1) + (s.b + 1) = p at p1
      generalize (C + 2) * (s.x + 1) + (s.y + 1) = q at p2
      obtain ⟨p, rfl⟩ := Int.eq_ofNat_of_zero_le p1.1
      obtain ⟨q, rfl⟩ := Int.eq_ofNat_of_zero_le p2.1
      simp only [Int.toNat_natCast]
      have : (p + 1) * M ≤ M * M := Nat.mul_le_mul_right _ (by omega)
      rw [Nat.succ_mul] at this
      omega)
    have gi := seq_good h i _ (hget i (by omega))
    have gj := seq_good h j _ (hget j (by omega))
    have ti := hget i (by omega)
    have tj := hget j (by omega)
    generalize (seq R C one s0 i).getD s0 = s at gi he ti
    generalize (seq R C one s0 j).getD s0 = t at gj he tj
    have p1 := place_lt hC gi.1
    have p2 := place_lt hC gi.2.1
    have q1 := place_lt hC gj.1
    have q2 := place_lt hC gj.2.1
    rw [hMz] at p1 p2 q1 q2
    have hb : ((C + 2) * (s.a + 1) + (s.b + 1)) = ((C + 2) * (t.a + 1) + (t.b + 1)) ∧ ((C + 2) * (s.x + 1) + (s.y + 1)) = ((C + 2) * (t.x + 1) + (t.y + 1)) := by
      unfold code at he
      generalize (C + 2) * (s.a + 1) + (s.b + 1) = p at p1 he ⊢
      generalize (C + 2) * (s.x + 1) + (s.y + 1) = q at p2 he ⊢
      generalize (C + 2) * (t.a + 1) + (t.b + 1) = p' at q1 he ⊢
      generalize (C + 2) * (t.x + 1) + (t.y + 1) = q' at q2 he ⊢
      obtain ⟨p, rfl⟩ := Int.eq_ofNat_of_zero_le p1.1
      obtain ⟨q, rfl⟩ := Int.eq_ofNat_of_zero_le p2.1
      obtain ⟨p', rfl⟩ := Int.eq_ofNat_of_zero_le q1.1
      obtain ⟨q', rfl⟩ := Int.eq_ofNat_of_zero_le q2.1
      simp only [Int.toNat_natCast] at he
      have hq : q < M := by omega
      have hq' : q' < M := by omega
      have hpe : p = p' := by
        have h1 : (p * M + q) / M = p := by rw [Nat.add_comm, Nat.add_mul_div_right _ _ (by omega), Nat.div_eq_of_lt hq, Nat.zero_add]
        have h2 : (p' * M + q') / M = p' := by rw [Nat.add_comm, Nat.add_mul_div_right _ _ (by omega), Nat.div_eq_of_lt hq', Nat.zero_add]
        rw [← h1, ← h2, he]
      subst hpe
      omega
    have hh1 := gi.1
    have hh2 := gi.2.1
    have hh3 := gj.1
    have hh4 := gj.2.1
    unfold has at hh1 hh2 hh3 hh4
    rw [decide_eq_true_eq] at hh1 hh2 hh3 hh4
    obtain ⟨i1, i2⟩ := place_inj hC hh1.2.2.1 hh1.2.2.2 hh3.2.2.1 hh3.2.2.2 hb.1
    obtain ⟨i3, i4⟩ := place_inj hC hh2.2.2.1 hh2.2.2.2 hh4.2.2.1 hh4.2.2.2 hb.2
    have hst : s = t := by
      cases s; cases t
      simp only at i1 i2 i3 i4
      subst i1 i2 i3 i4
      rfl
    subst hst
    have := seq_inj h hp i j _ ti tj
    omega
end
end Go.Proofs.Ytmfocekebenniaa.Hw
