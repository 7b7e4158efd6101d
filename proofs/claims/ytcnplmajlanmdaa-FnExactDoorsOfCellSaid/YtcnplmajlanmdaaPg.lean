/- Plain lemmas on the law's helpers for rows of rows (eqIntSS, markIntSS, heldIntSS), for up to 10000 rows of up to 10000 numbers. -/
import Derived.Test.YtcnplmajlanmdaaPz
import Derived.Test.YtcnplmajlanmdaaGm
import Derived.Test.YtcnplmajlanmdaaQx1
namespace Go.Proofs.Ytcnplmajlanmdaa.Pg
open Go.RowKit Go.Proofs.Ytcnplmajlanmdaa.Q Go.Proofs.Ytcnplmajlanmdaa.Given Go.Proofs.Ytcnplmajlanmdaa.Pz Go.Proofs.YtcnplmajlanmdaaW.PrintWords Go.Proofs.YtcnplmajlanmdaaW.PrintLast
set_option linter.unusedVariables false
set_option linter.unusedSimpArgs false

/-- Not too many numbers. -/
def Small (l : List (List Int)) : Prop := l.length ≤ 10000 ∧ ∀ r ∈ l, r.length ≤ 10000
theorem rd_row (l : List (List Int)) (i : Nat) (h : i < l.length) : rd_L1 l (i : Int) = l[i] := by
  unfold rd_L1
  rw [Int.toNat_natCast, List.getD_eq_getElem?_getD, List.getElem?_eq_getElem h]
  rfl
theorem eqSS_l0 (l : List (List Int)) (hl : Small l) (d : Nat) : ∀ (k i : Nat), i + d = l.length → d + 10001 < k → laws_eqIntSS.l0 k l l (i : Int) = some true := by
  induction d with
  | zero =>
    intro k i hi hk
    obtain ⟨k, rfl⟩ : ∃ m, k = m + 1 := ⟨k - 1, by omega⟩
    rw [laws_eqIntSS.l0, if_neg (by omega)]
  | succ d ih =>
    intro k i hi hk
    obtain ⟨k, rfl⟩ : ∃ m, k = m + 1 := ⟨k - 1, by omega⟩
    have hil : i < l.length := by omega
    have hr := hl.2 _ (List.getElem_mem hil)
    have hll := hl.1
    rw [laws_eqIntSS.l0, if_pos (by omega), if_pos (by omega), if_pos (by omega), rd_row l i hil, eqIntS_f _ _ (by omega) k (by omega)]
    simp only [Option.bind_some, decide_true, if_true]
    rw [wr (by omega) (by omega)]
    exact_mod_cast ih k (i + 1) (by omega) (by omega)
theorem eqSS_f (l : List (List Int)) (hl : Small l) : laws_eqIntSS.f 30000 l l = some true := by
  unfold laws_eqIntSS.f
  rw [if_pos rfl]
  have := hl.1
  obtain ⟨K, hK⟩ : ∃ K, K = 30000 := ⟨_, rfl⟩
  rw [← hK]
  exact eqSS_l0 l hl l.length K 0 (by omega) (by omega)

/-- All numbers written anew. -/
def marksS (x : Int) : List (List Int) → List (List Int)
  | [] => []
  | r :: t => marks x r.length :: marksS (x + r.length) t
def total : List (List Int) → Nat
  | [] => 0
  | r :: t => r.length + total t
theorem total_le (l : List (List Int)) (h : ∀ r ∈ l, r.length ≤ 10000) : total l ≤ l.length * 10000 := by
  induction l with
  | nil => simp [total]
  | cons r t ih =>
    have h1 := h r (by simp)
    have h2 := ih (fun y hy => h y (by simp [hy]))
    simp only [total, List.length_cons, Nat.succ_mul]
    omega
theorem markSS_f (k : Nat) (hk : 10000 < k) : ∀ (l : List (List Int)) (x : Int), (∀ r ∈ l, r.length ≤ 10000) → 0 ≤ x → x + total l ≤ 1000000000 → laws_markIntSS.f k l x = some (x + total l, marksS x l) := by
  intro l
  induction l with
  | nil => intro x _ _ _; simp [laws_markIntSS.f, total, marksS]
  | cons r t ih =>
    intro x h h0 h1
    have hr := h r (by simp)
    simp only [total] at h1 ⊢
    unfold laws_markIntSS.f marksS
    rw [markIntS_f r x k (by omega) h0 (by omega)]
    simp only [Option.bind_some]
    rw [ih (x + r.length) (fun y hy => h y (by simp [hy])) (by omega) (by omega)]
    simp only [Option.bind_some]
    congr 2
    omega
theorem marksS_len (l : List (List Int)) : ∀ x, (marksS x l).length = l.length := by
  induction l with
  | nil => intro x; rfl
  | cons r t ih => intro x; simp [marksS, ih]
theorem held_l0 (l : List (List Int)) : ∀ (p : List (List Int)) (k : Nat) (x : Int), (∀ r ∈ l, r.length ≤ 10000) → p.length + l.length ≤ 10000 → l.length + 10001 < k → 0 ≤ x → x + total l ≤ 1000000000 →
    laws_heldIntSS.l0 k (p ++ marksS x l) x (p.length : Int) = some (x + total l) := by
  induction l with
  | nil =>
    intro p k x _ _ hk h0 h1
    obtain ⟨k, rfl⟩ : ∃ m, k = m + 1 := ⟨k - 1, by omega⟩
    rw [laws_heldIntSS.l0, if_neg (by simp [marksS])]
    simp [total]
  | cons r t ih =>
    intro p k x h hp hk h0 h1
    obtain ⟨k, rfl⟩ : ∃ m, k = m + 1 := ⟨k - 1, by omega⟩
    have hr := h r (by simp)
    simp only [List.length_cons] at hp hk
    simp only [total] at h1 ⊢
    have hlen : (p ++ marksS x (r :: t)).length = p.length + (t.length + 1) := by simp [marksS, marksS_len]
    have hrow : rd_L1 (p ++ marksS x (r :: t)) (p.length : Int) = marks x r.length := by
      rw [rd_row _ _ (by omega), List.getElem_append_right (by omega)]
      simp [marksS]
    rw [laws_heldIntSS.l0, if_pos (by rw [hlen]; omega), if_pos (by omega), hrow, heldIntS_f r.length x k (by omega) h0 (by omega)]
    simp only [Option.bind_some]
    rw [if_neg (by omega), wr (by omega) (by omega)]
    have e : p ++ marksS x (r :: t) = (p ++ [marks x r.length]) ++ marksS (x + r.length) t := by simp [marksS]
    have e2 : ((p.length : Int) + 1) = (((p ++ [marks x r.length]).length : Nat) : Int) := by simp
    rw [e, e2, ih (p ++ [marks x r.length]) k (x + r.length) (fun y hy => h y (by simp [hy])) (by simp; omega) (by omega) (by omega) (by omega)]
    congr 1
    omega
theorem heldSS_f (l : List (List Int)) (hl : Small l) : laws_heldIntSS.f 30000 (marksS 1 l) 1 = some (1 + (total l : Int)) := by
  have h1 := total_le l hl.2
  have h2 : l.length * 10000 ≤ 10000 * 10000 := Nat.mul_le_mul_right _ hl.1
  have h3 := hl.1
  unfold laws_heldIntSS.f
  obtain ⟨K, hK⟩ : ∃ K, K = 30000 := ⟨_, rfl⟩
  rw [← hK]
  have := held_l0 l [] K 1 hl.2 (by simp; omega) (by omega) (by omega) (by omega)
  simpa using this
theorem markSS_ff (l : List (List Int)) (hl : Small l) : laws_markIntSS.f 30000 l 1 = some (1 + (total l : Int), marksS 1 l) := by
  have h1 := total_le l hl.2
  have h2 : l.length * 10000 ≤ 10000 * 10000 := Nat.mul_le_mul_right _ hl.1
  have h3 := hl.1
  obtain ⟨K, hK⟩ : ∃ K, K = 30000 := ⟨_, rfl⟩
  rw [← hK]
  exact markSS_f K (by omega) l 1 hl.2 (by omega) (by omega)
end Go.Proofs.Ytcnplmajlanmdaa.Pg
