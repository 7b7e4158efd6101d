/- Plain facts on houses: the full cells and their signs' sum, the program's and the reference's. -/
import Derived.Test.YtcnplmajlanmdaaPd
import Derived.Test.YtcnplmajlanmdaaQx10
import Derived.Test.YtcnplmajlanmdaaQx6
import Derived.Test.YtcnplmajlanmdaaQx2
import Derived.Test.YtcnplmajlanmdaaQx1
namespace Go.Proofs.Ytcnplmajlanmdaa.Pe
open Go.RowKit Go.Proofs.Ytcnplmajlanmdaa.Q Go.Proofs.Ytcnplmajlanmdaa.Given Go.Proofs.Ytcnplmajlanmdaa.Pz Go.Proofs.Ytcnplmajlanmdaa.Pm Go.Proofs.Ytcnplmajlanmdaa.Pn Go.Proofs.Ytcnplmajlanmdaa.Pc Go.Proofs.Ytcnplmajlanmdaa.Pd Go.Proofs.YtcnplmajlanmdaaW.PrintWords Go.Proofs.YtcnplmajlanmdaaW.PrintLast

theorem houseOf_no {n : Int} {l : List Int} (h : impl_areLabels.f n l = some false) (k : Nat) : impl_houseOf.f k n l = some (0, [], [], [], false) := by
  unfold impl_houseOf.f; rw [h]; rfl
theorem houseOf_yes {n : Int} {l : List Int} {cs : List (List Int)} {bd : List Int} (h : impl_areLabels.f n l = some true) (hc : Cls n cs bd) (k : Nat) (hk : 20000 ≤ k) : impl_houseOf.f k n l = some (n, l, cs, bd, true) := by
  unfold impl_houseOf.f; rw [h, hc.ic k hk, hc.ib k hk]; rfl

/-- The labels of a side, its cells: all that is needed. -/
structure Hse (n : Int) (l : List Int) (cs : List (List Int)) (bd : List Int) : Prop where
  cls : Cls n cs bd
  n1 : 1 ≤ n
  n8 : n ≤ 8
  len : l.length = cnt n
  lab : ∀ x ∈ l, 0 ≤ x ∧ x ≤ 2
theorem hse_of {n : Int} {l : List Int} (h : impl_areLabels.f n l = some true) : ∃ cs bd, Hse n l cs bd := by
  obtain ⟨n1, n2, hc, hl⟩ := labels_of h rfl
  obtain ⟨cs, bd, h⟩ := cls_of n1 n2
  exact ⟨cs, bd, ⟨h, n1, n2, hc, hl⟩⟩
theorem clen {n : Int} {l : List Int} {cs : List (List Int)} {bd : List Int} (H : Hse n l cs bd) : cs.length ≤ 64 := by
  have h := H.cls.len
  have a := H.n1; have b := H.n8
  have : n * n ≤ 8 * n := Int.mul_le_mul_of_nonneg_right b (by omega)
  omega

/-- Is the cell c full, by its labels. -/
def fl (l : List Int) (cs : List (List Int)) (c : Int) : Bool := ful (rd l (rd (rd_L2 cs c) 0)) (rd l (rd (rd_L2 cs c) 1)) (rd l (rd (rd_L2 cs c) 2))
/-- The sign of the cell c. -/
def sgC (l : List Int) (cs : List (List Int)) (up : List Int → Bool) (c : Int) : Int := sgnF (rd l (rd (rd_L2 cs c) 0)) (rd l (rd (rd_L2 cs c) 1)) (up (rd_L2 cs c))

theorem isFull_h {n : Int} {l : List Int} {cs : List (List Int)} {bd : List Int} (H : Hse n l cs bd) {c : Int} (c0 : 0 ≤ c) (c1 : c < (cs.length : Int)) :
    impl_house_isFull.f n l cs bd c = some (fl l cs c) ∧ ∀ k, 10 ≤ k → spec_doFull.f k l (rd_L2 cs c) = some (fl l cs c) := by
  obtain ⟨i, j, m, hc, h0, h1, h2, h3⟩ := H.cls.tri _ (cell_mem c0 c1)
  have hl := H.len
  have li := rd_lab H.lab (i := i) (by omega) (by omega)
  have lj := rd_lab H.lab (i := j) (by omega) (by omega)
  have lm := rd_lab H.lab (i := m) (by omega) (by omega)
  unfold fl
  rw [hc, r0, r1, r2]
  exact ⟨isFull_at c0 c1 hc (by omega) (by omega) (by omega) (by omega) (by omega) (by omega) li lj lm, fun k hk => doFull_at (by omega) (by omega) (by omega) (by omega) (by omega) (by omega) li lj lm k hk⟩
theorem sign_h {n : Int} {l : List Int} {cs : List (List Int)} {bd : List Int} (H : Hse n l cs bd) : ∃ up : List Int → Bool, ∀ c : Int, 0 ≤ c → c < (cs.length : Int) → fl l cs c = true →
    ∀ k, 20010 ≤ k → impl_house_sign.f k n l cs bd c = some (sgC l cs up c) ∧ spec_doSign.f k n l (rd_L2 cs c) = some (sgC l cs up c) := by
  refine ⟨fun c => (impl_isUp.f 20000 n c).getD false, fun c c0 c1 hf k hk => ?_⟩
  obtain ⟨i, j, m, hc, h0, h1, h2, h3⟩ := H.cls.tri _ (cell_mem c0 c1)
  obtain ⟨u, hu⟩ := H.cls.up _ (cell_mem c0 c1)
  have hl := H.len
  have li := rd_lab H.lab (i := i) (by omega) (by omega)
  have lj := rd_lab H.lab (i := j) (by omega) (by omega)
  have lm := rd_lab H.lab (i := m) (by omega) (by omega)
  have eu : (impl_isUp.f 20000 n (rd_L2 cs c)).getD false = u := by rw [(hu 20000 (by omega)).1]; rfl
  unfold fl at hf
  unfold sgC
  simp only [eu]
  rw [hc] at hu hf ⊢
  rw [r0, r1, r2] at hf
  rw [r0, r1]
  exact ⟨sign_at c0 c1 hc (by omega) (by omega) (by omega) (by omega) k (hu k (by omega)).1, doSign_at (by omega) (by omega) (by omega) (by omega) (by omega) (by omega) li lj lm hf (fun k hk => (hu k hk).2) k hk⟩

def fullL (l : List Int) (cs : List (List Int)) : Nat → List Int
  | 0 => []
  | t + 1 => if fl l cs t = true then fullL l cs t ++ [(t : Int)] else fullL l cs t
theorem fullL_len (l : List Int) (cs : List (List Int)) (t : Nat) : (fullL l cs t).length ≤ t := by
  induction t with
  | zero => simp [fullL]
  | succ t ih =>
    unfold fullL
    split
    · rw [List.length_append, List.length_singleton]; omega
    · omega
theorem fullL_mem (l : List Int) (cs : List (List Int)) (t : Nat) : ∀ x ∈ fullL l cs t, 0 ≤ x ∧ x < (t : Int) ∧ fl l cs x = true := by
  induction t with
  | zero => intro x hx; simp [fullL] at hx
  | succ t ih =>
    intro x hx
    unfold fullL at hx
    split at hx
    · rename_i h
      rw [List.mem_append, List.mem_singleton] at hx
      rcases hx with hx | rfl
      · have := ih x hx; exact ⟨this.1, by omega, this.2.2⟩
      · exact ⟨by omega, by omega, h⟩
    · have := ih x hx; exact ⟨this.1, by omega, this.2.2⟩

theorem full_l0 {n : Int} {l : List Int} {cs : List (List Int)} {bd : List Int} (H : Hse n l cs bd) (d : Nat) : ∀ (k t : Nat), cs.length - t = d → t ≤ cs.length → d < k →
    impl_house_full.l0 k (fullL l cs t) (cs.length : Int) (t : Int) n l cs bd = some (fullL l cs cs.length) := by
  have hcl := clen H
  induction d with
  | zero =>
    intro k t hd ht hk
    obtain ⟨k, rfl⟩ : ∃ p, k = p + 1 := ⟨k - 1, by omega⟩
    obtain rfl : t = cs.length := by omega
    rw [impl_house_full.l0, if_neg (by omega)]
  | succ d ih =>
    intro k t hd ht hk
    obtain ⟨k, rfl⟩ : ∃ p, k = p + 1 := ⟨k - 1, by omega⟩
    have w2 : wrap64 ((t : Int) + 1) = ((t + 1 : Nat) : Int) := by rw [wr (by omega) (by omega)]; omega
    have h := ih k (t + 1) (by omega) (by omega) (by omega)
    have hL := fullL_len l cs t
    rw [impl_house_full.l0, if_pos (by omega), (isFull_h H (c := t) (by omega) (by omega)).1, Option.bind_some, w2]
    rw [fullL] at h
    by_cases c : fl l cs t = true
    · rw [if_pos c] at h ⊢
      rw [if_pos (by omega)]
      exact h
    · rw [if_neg c] at h ⊢
      exact h
theorem allFull_l0 {n : Int} {l : List Int} {cs : List (List Int)} {bd : List Int} (H : Hse n l cs bd) (d : Nat) : ∀ (k t : Nat), cs.length - t = d → t ≤ cs.length → d + 20 < k →
    spec_doAllFull.l0 k l (fullL l cs t) cs (cs.length : Int) (t : Int) = some (fullL l cs cs.length) := by
  have hcl := clen H
  induction d with
  | zero =>
    intro k t hd ht hk
    obtain ⟨k, rfl⟩ : ∃ p, k = p + 1 := ⟨k - 1, by omega⟩
    obtain rfl : t = cs.length := by omega
    rw [spec_doAllFull.l0, if_neg (by omega)]
  | succ d ih =>
    intro k t hd ht hk
    obtain ⟨k, rfl⟩ : ∃ p, k = p + 1 := ⟨k - 1, by omega⟩
    have w2 : wrap64 ((t : Int) + 1) = ((t + 1 : Nat) : Int) := by rw [wr (by omega) (by omega)]; omega
    have h := ih k (t + 1) (by omega) (by omega) (by omega)
    have hL := fullL_len l cs t
    rw [spec_doAllFull.l0, if_pos (by omega), if_pos (by omega), if_pos (by omega), (isFull_h H (c := t) (by omega) (by omega)).2 k (by omega), Option.bind_some, w2]
    rw [fullL] at h
    by_cases c : fl l cs t = true
    · rw [if_pos c] at h ⊢
      rw [if_pos (by omega)]
      exact h
    · rw [if_neg c] at h ⊢
      exact h

def degS (l : List Int) (cs : List (List Int)) (up : List Int → Bool) : Nat → Int
  | 0 => 0
  | t + 1 => if fl l cs t = true then wrap64 (degS l cs up t + sgC l cs up t) else degS l cs up t
theorem degS_fold (l : List Int) (cs : List (List Int)) (up : List Int → Bool) (t : Nat) : (fullL l cs t).foldl (fun a x => wrap64 (a + sgC l cs up x)) 0 = degS l cs up t := by
  induction t with
  | zero => rfl
  | succ t ih =>
    unfold fullL degS
    split
    · rw [List.foldl_append, ih]; rfl
    · exact ih
theorem deg_l0 {n : Int} {l : List Int} {cs : List (List Int)} {bd : List Int} {up : List Int → Bool} (hup : ∀ c : Int, 0 ≤ c → c < (cs.length : Int) → fl l cs c = true →
    ∀ k, 20010 ≤ k → impl_house_sign.f k n l cs bd c = some (sgC l cs up c) ∧ spec_doSign.f k n l (rd_L2 cs c) = some (sgC l cs up c))
    (L : List Int) (hm : ∀ x ∈ L, 0 ≤ x ∧ x < (cs.length : Int) ∧ fl l cs x = true) (hL : L.length ≤ 64) (d : Nat) : ∀ (k t : Nat) (acc : Int), L.length - t = d → t ≤ L.length → d + 20010 < k →
    impl_DegreeOf.l0 k acc L (L.length : Int) (t : Int) n l cs bd = some ((L.drop t).foldl (fun a x => wrap64 (a + sgC l cs up x)) acc, true) := by
  induction d with
  | zero =>
    intro k t acc hd ht hk
    obtain ⟨k, rfl⟩ : ∃ p, k = p + 1 := ⟨k - 1, by omega⟩
    obtain rfl : t = L.length := by omega
    rw [impl_DegreeOf.l0, if_neg (by omega), List.drop_of_length_le (Nat.le_refl _)]
    rfl
  | succ d ih =>
    intro k t acc hd ht hk
    obtain ⟨k, rfl⟩ : ∃ p, k = p + 1 := ⟨k - 1, by omega⟩
    have hlt : t < L.length := by omega
    have w2 : wrap64 ((t : Int) + 1) = ((t + 1 : Nat) : Int) := by rw [wr (by omega) (by omega)]; omega
    have ea : L.drop t = rd L t :: L.drop (t + 1) := by
      rw [List.drop_eq_getElem_cons hlt, rd_nat]; simp [List.getD_eq_getElem?_getD, List.getElem?_eq_getElem hlt]
    have hx := hm (rd L t) (by rw [rd_nat, List.getD_eq_getElem?_getD, List.getElem?_eq_getElem hlt]; simp)
    rw [impl_DegreeOf.l0, if_pos (by omega), if_pos (by omega), if_pos (by omega), (hup _ hx.1 hx.2.1 hx.2.2 k (by omega)).1, Option.bind_some, w2, ih k (t + 1) _ (by omega) (by omega) (by omega), ea]
    rfl
theorem sdeg_l0 {n : Int} {l : List Int} {cs : List (List Int)} {bd : List Int} (H : Hse n l cs bd) {up : List Int → Bool} (hup : ∀ c : Int, 0 ≤ c → c < (cs.length : Int) → fl l cs c = true →
    ∀ k, 20010 ≤ k → impl_house_sign.f k n l cs bd c = some (sgC l cs up c) ∧ spec_doSign.f k n l (rd_L2 cs c) = some (sgC l cs up c))
    (d : Nat) : ∀ (k t : Nat), cs.length - t = d → t ≤ cs.length → d + 20010 < k →
    spec_DegreeOf.l0 k n l (degS l cs up t) cs (cs.length : Int) (t : Int) = some (degS l cs up cs.length, true) := by
  have hcl := clen H
  induction d with
  | zero =>
    intro k t hd ht hk
    obtain ⟨k, rfl⟩ : ∃ p, k = p + 1 := ⟨k - 1, by omega⟩
    obtain rfl : t = cs.length := by omega
    rw [spec_DegreeOf.l0, if_neg (by omega)]
  | succ d ih =>
    intro k t hd ht hk
    obtain ⟨k, rfl⟩ : ∃ p, k = p + 1 := ⟨k - 1, by omega⟩
    have w2 : wrap64 ((t : Int) + 1) = ((t + 1 : Nat) : Int) := by rw [wr (by omega) (by omega)]; omega
    have h := ih k (t + 1) (by omega) (by omega) (by omega)
    rw [spec_DegreeOf.l0, if_pos (by omega), if_pos (by omega), if_pos (by omega), (isFull_h H (c := t) (by omega) (by omega)).2 k (by omega), Option.bind_some, w2]
    rw [degS] at h
    by_cases c : fl l cs t = true
    · rw [if_pos c] at h
      rw [if_pos c, (hup t (by omega) (by omega) c k (by omega)).2, Option.bind_some]
      exact h
    · rw [if_neg c] at h
      rw [if_neg c]
      exact h

/-- Is a number a cell: both say the same. -/
theorem cell_f {n c : Int} (n1 : 1 ≤ n) (n8 : n ≤ 8) : ∃ b, impl_isCell.f n c = some b ∧ spec_l1In.f c 0 (wrap64 ((wrap64 (n * n)) - 1)) = some b ∧ (b = true → 0 ≤ c ∧ c < n * n) := by
  have hf : inRange n 1 8 = true := by unfold inRange; simp [n1, n8]
  refine ⟨inRange c 0 (wrap64 ((wrap64 (n * n)) - 1)), ?_, l1In_f _ _ _, ?_⟩
  · unfold impl_isCell.f
    rw [isSide_f, hf, in_f]
    rfl
  · intro h
    unfold inRange at h
    simp only [Bool.and_eq_true, decide_eq_true_eq] at h
    refine ⟨h.1, ?_⟩
    have h2 := h.2
    obtain rfl | rfl | rfl | rfl | rfl | rfl | rfl | rfl : n = 1 ∨ n = 2 ∨ n = 3 ∨ n = 4 ∨ n = 5 ∨ n = 6 ∨ n = 7 ∨ n = 8 := by omega
    all_goals (simp [wrap64] at h2; omega)
end Go.Proofs.Ytcnplmajlanmdaa.Pe
