/- Plain: paths of no cost of both players, and the theorem that on full boards one of them has won, and never both. For all boards with at most 30 places. -/
import Derived.Test.YtjajahofbhcioaaPq
import Derived.Test.YtjajahofbhcioaaHe
namespace Go.Proofs.Ytjajahofbhcioaa.Pw
open Go.RowKit Go.Proofs.Ytjajahofbhcioaa.Q Go.Proofs.Ytjajahofbhcioaa.Given Go.Proofs.Ytjajahofbhcioaa.Hg Go.Proofs.Ytjajahofbhcioaa.Hu Go.Proofs.Ytjajahofbhcioaa.He Go.Proofs.Ytjajahofbhcioaa.Pa Go.Proofs.Ytjajahofbhcioaa.Pq Go.Proofs.YtjajahofbhcioaaW.PrintWords Go.Proofs.YtjajahofbhcioaaW.PrintLast
set_option linter.unusedVariables false
set_option linter.unusedSimpArgs false

section
variable {r c : Nat} {b : List Int}
/-- The places of the board of a kind. -/
def onB (r c : Nat) (b : List Int) (p : Int → Prop) (x y : Int) : Prop := (0 ≤ x ∧ x < r ∧ 0 ≤ y ∧ y < c) ∧ p (rd b ((c : Int) * x + y))

theorem split (hc : 1 ≤ c) (i : Nat) (hi : i < r * c) : (c : Int) * ((i : Int) / c) + (i : Int) % c = i ∧ 0 ≤ (i : Int) / c ∧ (i : Int) / c < r ∧ 0 ≤ (i : Int) % c ∧ (i : Int) % c < c := by
  have h1 := Int.mul_ediv_add_emod (i : Int) (c : Int)
  have h2 : 0 ≤ (i : Int) / c := Int.ediv_nonneg (by omega) (by omega)
  have h3 : (i : Int) / c < r := Int.ediv_lt_of_lt_mul (by omega) (by exact_mod_cast hi)
  exact ⟨h1, h2, h3, Int.emod_nonneg _ (by omega), Int.emod_lt_of_pos _ (by omega)⟩
theorem joins {x y : Int} (h : 0 ≤ x ∧ x < r ∧ 0 ≤ y ∧ y < c) : ∃ i : Nat, i < r * c ∧ (i : Int) = (c : Int) * x + y ∧ (i : Int) / c = x ∧ (i : Int) % c = y := by
  obtain ⟨h0, h1, h2, h3⟩ := h
  have hm : 0 ≤ (c : Int) * x := Int.mul_nonneg (by omega) h0
  have hu : (c : Int) * x ≤ (c : Int) * ((r : Int) - 1) := Int.mul_le_mul_of_nonneg_left (by omega) (by omega)
  have he : (c : Int) * ((r : Int) - 1) = ((r * c : Nat) : Int) - c := by rw [Int.mul_sub, Int.mul_one, Int.natCast_mul, Int.mul_comm]
  obtain ⟨i, hi⟩ := Int.eq_ofNat_of_zero_le (show 0 ≤ (c : Int) * x + y by omega)
  refine ⟨i, by omega, hi.symm, ?_, ?_⟩
  · rw [← hi, Int.mul_add_ediv_left _ _ (by omega), Int.ediv_eq_zero_of_lt h2 h3, Int.add_zero]
  · rw [← hi, Int.mul_add_emod_self_left, Int.emod_eq_of_lt h2 h3]

theorem down_of (hc : 1 ≤ c) (p : Int → Prop) {cc i : Nat} (h : PG r c b 1 cc i) (hp : ∀ j : Nat, okG r c b 1 j → coG b 1 j ≤ cc → p (rd b j)) : Down (onB r c b p) ((i : Int) / c) ((i : Int) % c) := by
  induction h with
  | @start i h1 h2 =>
    obtain ⟨e, a1, a2, a3, a4⟩ := split hc i h2.1
    have hx : (i : Int) / c = 0 := by
      have : firstN c 1 i = true := h1
      unfold firstN at this
      simp at this
      exact Int.ediv_eq_zero_of_lt (by omega) (by exact_mod_cast this)
    have ho : onB r c b p ((i : Int) / c) ((i : Int) % c) := ⟨⟨a1, a2, a3, a4⟩, by rw [e]; exact hp i h2 (Nat.le_refl _)⟩
    rw [hx] at ho ⊢
    exact .top ho
  | @step cc j i hP h1 h2 ih =>
    obtain ⟨e, a1, a2, a3, a4⟩ := split hc i h2.1
    exact .step (ih (fun j hj hl => hp j hj (by omega))) h1.2 ⟨⟨a1, a2, a3, a4⟩, by rw [e]; exact hp i h2 (by omega)⟩
theorem right_of (hc : 1 ≤ c) (p : Int → Prop) {cc i : Nat} (h : PG r c b 2 cc i) (hp : ∀ j : Nat, okG r c b 2 j → coG b 2 j ≤ cc → p (rd b j)) : Right (onB r c b p) ((i : Int) / c) ((i : Int) % c) := by
  induction h with
  | @start i h1 h2 =>
    obtain ⟨e, a1, a2, a3, a4⟩ := split hc i h2.1
    have hx : (i : Int) % c = 0 := by
      have : firstN c 2 i = true := h1
      unfold firstN at this
      simpa using this
    have ho : onB r c b p ((i : Int) / c) ((i : Int) % c) := ⟨⟨a1, a2, a3, a4⟩, by rw [e]; exact hp i h2 (Nat.le_refl _)⟩
    rw [hx] at ho ⊢
    exact .left ho
  | @step cc j i hP h1 h2 ih =>
    obtain ⟨e, a1, a2, a3, a4⟩ := split hc i h2.1
    exact .step (ih (fun j hj hl => hp j hj (by omega))) h1.2 ⟨⟨a1, a2, a3, a4⟩, by rw [e]; exact hp i h2 (by omega)⟩

theorem ends_down (hc : 1 ≤ c) (p : Int → Prop) {cc : Nat} (h : Cost r c b 1 cc) (hp : ∀ j : Nat, okG r c b 1 j → coG b 1 j ≤ cc → p (rd b j)) : ∃ y, Down (onB r c b p) ((r : Int) - 1) y := by
  obtain ⟨i, hl, hP⟩ := h
  have hd := down_of hc p hP hp
  obtain ⟨e, a1, a2, a3, a4⟩ := split hc i hP.okEnd.1
  have hx : (i : Int) / c = (r : Int) - 1 := by
    unfold lastN at hl
    simp at hl
    apply Classical.byContradiction
    intro hne
    have h3 : (c : Int) * ((i : Int) / c) ≤ (c : Int) * ((r : Int) - 1 - 1) := Int.mul_le_mul_of_nonneg_left (by omega) (by omega)
    have h4 : (c : Int) * ((r : Int) - 1 - 1) = (c : Int) * ((r : Int) - 1) - c := by rw [Int.mul_sub (c : Int) ((r : Int) - 1) 1, Int.mul_one]
    omega
  rw [hx] at hd
  exact ⟨_, hd⟩
theorem ends_right (hc : 1 ≤ c) (p : Int → Prop) {cc : Nat} (h : Cost r c b 2 cc) (hp : ∀ j : Nat, okG r c b 2 j → coG b 2 j ≤ cc → p (rd b j)) : ∃ x, Right (onB r c b p) x ((c : Int) - 1) := by
  obtain ⟨i, hl, hP⟩ := h
  have hd := right_of hc p hP hp
  have hx : (i : Int) % c = (c : Int) - 1 := by
    unfold lastN at hl
    simpa using hl
  rw [hx] at hd
  exact ⟨_, hd⟩
theorem co0 {pl : Int} {j : Nat} (h : coG b pl j ≤ 0) : rd b j = pl := by
  unfold coG at h
  split at h
  · assumption
  · omega
/-- Whoever has won leaves the other none. -/
theorem not_both2 (hc : 1 ≤ c) {cc : Nat} (h1 : Cost r c b 1 cc) (h2 : Cost r c b 2 0) : False := by
  obtain ⟨y, hd⟩ := ends_down hc (fun x => x ≠ 2) h1 (fun j ho _ => by rcases ho.2 with h | h <;> omega)
  obtain ⟨x, hr⟩ := ends_right hc (fun x => x = 2) h2 (fun j ho hl => co0 hl)
  exact not_both (R := r) (C := c) (fun x y h => ⟨h.1.1, h.1.2.2⟩) (fun x y h h' => h'.2 h.2) (fun x y h => ⟨h.1.1, h.1.2.1⟩) hd hr
theorem not_both1 (hc : 1 ≤ c) {cc : Nat} (h1 : Cost r c b 1 0) (h2 : Cost r c b 2 cc) : False := by
  obtain ⟨y, hd⟩ := ends_down hc (fun x => x = 1) h1 (fun j ho hl => co0 hl)
  obtain ⟨x, hr⟩ := ends_right hc (fun x => x ≠ 1) h2 (fun j ho _ => by rcases ho.2 with h | h <;> omega)
  exact not_both (R := r) (C := c) (fun x y h => ⟨h.1.1, h.1.2.2⟩) (fun x y h h' => h.2 h'.2) (fun x y h => ⟨h.1.1, h.1.2.1⟩) hd hr

/-! one has won -/
theorem of_down {x y : Int} (own : Int → Int → Bool) (ho : ∀ x y, (0 ≤ x ∧ x < (r : Int) ∧ 0 ≤ y ∧ y < (c : Int)) → own x y = true → rd b ((c : Int) * x + y) = 1) (h : Down (on1 r c own) x y) : ∃ i : Nat, (i : Int) = (c : Int) * x + y ∧ (i : Int) / c = x ∧ (i : Int) % c = y ∧ PG r c b 1 0 i := by
  induction h with
  | @top y h0 =>
    obtain ⟨i, h1, h2, h3, h4⟩ := joins h0.1
    have hv := ho _ _ h0.1 h0.2
    rw [← h2] at hv
    refine ⟨i, h2, h3, h4, ?_⟩
    have : coG b 1 i = 0 := by unfold coG; rw [if_pos hv]
    rw [← this]
    refine .start ?_ ⟨h1, .inl hv⟩
    show firstN c 1 i = true
    have hi : (i : Int) < c := by have := h0.1; omega
    unfold firstN
    simp [hi]
  | @step x y x' y' hd hadj h0 ih =>
    obtain ⟨j, j1, j2, j3, hP⟩ := ih
    obtain ⟨i, h1, h2, h3, h4⟩ := joins h0.1
    have hv := ho _ _ h0.1 h0.2
    rw [← h2] at hv
    refine ⟨i, h2, h3, h4, ?_⟩
    have : coG b 1 i = 0 := by unfold coG; rw [if_pos hv]
    have hs : PG r c b 1 (0 + coG b 1 i) i := .step hP ⟨⟨hP.okEnd.1, h1⟩, by unfold adjI; rw [j2, j3, h3, h4]; exact hadj⟩ ⟨h1, .inl hv⟩
    rw [this] at hs
    exact hs
theorem of_right {x y : Int} (own : Int → Int → Bool) (ho : ∀ x y, (0 ≤ x ∧ x < (r : Int) ∧ 0 ≤ y ∧ y < (c : Int)) → own x y = false → rd b ((c : Int) * x + y) = 2) (h : Right (on2 r c own) x y) : ∃ i : Nat, (i : Int) = (c : Int) * x + y ∧ (i : Int) / c = x ∧ (i : Int) % c = y ∧ PG r c b 2 0 i := by
  induction h with
  | @left x h0 =>
    obtain ⟨i, h1, h2, h3, h4⟩ := joins h0.1
    have hv := ho _ _ h0.1 h0.2
    rw [← h2] at hv
    refine ⟨i, h2, h3, h4, ?_⟩
    have : coG b 2 i = 0 := by unfold coG; rw [if_pos hv]
    rw [← this]
    refine .start ?_ ⟨h1, .inl hv⟩
    show firstN c 2 i = true
    unfold firstN
    simp [h4]
  | @step x y x' y' hd hadj h0 ih =>
    obtain ⟨j, j1, j2, j3, hP⟩ := ih
    obtain ⟨i, h1, h2, h3, h4⟩ := joins h0.1
    have hv := ho _ _ h0.1 h0.2
    rw [← h2] at hv
    refine ⟨i, h2, h3, h4, ?_⟩
    have : coG b 2 i = 0 := by unfold coG; rw [if_pos hv]
    have hs : PG r c b 2 (0 + coG b 2 i) i := .step hP ⟨⟨hP.okEnd.1, h1⟩, by unfold adjI; rw [j2, j3, h3, h4]; exact hadj⟩ ⟨h1, .inl hv⟩
    rw [this] at hs
    exact hs

def ownB (c : Nat) (b : List Int) (x y : Int) : Bool := decide (rd b ((c : Int) * x + y) = 1)
theorem won1_cost (hfull : ∀ i : Nat, i < r * c → rd b i = 1 ∨ rd b i = 2) (h : Won1 r c (ownB c b)) : Cost r c b 1 0 := by
  obtain ⟨y, h⟩ := h
  obtain ⟨i, h1, h2, h3, hP⟩ := of_down (ownB c b) (fun x y _ ho => by unfold ownB at ho; simpa using ho) h
  refine ⟨i, ?_, hP⟩
  unfold lastN
  have hy := h.on.1
  have : (c : Int) * ((r : Int) - 1) ≤ i := by omega
  simp [this]
theorem won2_cost (hfull : ∀ i : Nat, i < r * c → rd b i = 1 ∨ rd b i = 2) (h : Won2 r c (ownB c b)) : Cost r c b 2 0 := by
  obtain ⟨x, h⟩ := h
  obtain ⟨i, h1, h2, h3, hP⟩ := of_right (r := r) (c := c) (b := b) (ownB c b) (fun x y hb ho => by
    obtain ⟨j, j1, j2, _⟩ := joins hb
    unfold ownB at ho
    have := hfull j j1
    rw [j2] at this
    rcases this with e | e
    · rw [e] at ho; simp at ho
    · exact e) h
  refine ⟨i, ?_, hP⟩
  unfold lastN
  simp [h3]
/-- On a full board one of both has won. -/
theorem one_won (hr : 1 ≤ r) (hc : 1 ≤ c) (hfull : ∀ i : Nat, i < r * c → rd b i = 1 ∨ rd b i = 2) : Cost r c b 1 0 ∨ Cost r c b 2 0 := by
  obtain ⟨k, s, _, _, _, _, h⟩ := walk_ends (R := r) (C := c) (own := ownB c b) (by omega) (by omega)
  rcases h with h | h
  · exact .inr (won2_cost hfull h.2.2.2.2)
  · exact .inl (won1_cost hfull h.2.2.2.2)
end
end Go.Proofs.Ytjajahofbhcioaa.Pw
