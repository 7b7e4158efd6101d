/- Plain: what the program's need tells: the least cost of a path. For all boards with at most 30 places. -/
import Derived.Test.YtjajahofbhcioaaGs
import Derived.Test.YtjajahofbhcioaaHg
import Derived.Test.YtjajahofbhcioaaPa
namespace Go.Proofs.Ytjajahofbhcioaa.Pq
open Go.RowKit Go.Proofs.Ytjajahofbhcioaa.Q Go.Proofs.Ytjajahofbhcioaa.Given Go.Proofs.Ytjajahofbhcioaa.Hg Go.Proofs.Ytjajahofbhcioaa.Pa Go.Proofs.YtjajahofbhcioaaW.PrintWords Go.Proofs.YtjajahofbhcioaaW.PrintLast
set_option linter.unusedVariables false
set_option linter.unusedSimpArgs false

/-! the graph of a board and a player -/
def nbG (r c : Nat) (j i : Nat) : Prop := (j < r * c ∧ i < r * c) ∧ adjI c j i
def stG (c : Nat) (pl : Int) (i : Nat) : Prop := firstN c pl i = true
def okG (r c : Nat) (b : List Int) (pl : Int) (i : Nat) : Prop := i < r * c ∧ (rd b i = pl ∨ rd b i = 0)
def coG (b : List Int) (pl : Int) (i : Nat) : Nat := if rd b i = pl then 0 else 1
abbrev PG (r c : Nat) (b : List Int) (pl : Int) (cc i : Nat) : Prop := P (nbG r c) (stG c pl) (okG r c b pl) (coG b pl) cc i
/-- The cost of a path to the last line. -/
def Cost (r c : Nat) (b : List Int) (pl : Int) (cc : Nat) : Prop := ∃ i : Nat, lastN r c pl i = true ∧ PG r c b pl cc i
theorem coG_le (b : List Int) (pl : Int) (i : Nat) : coG b pl i ≤ 1 := by unfold coG; split <;> omega
theorem Cost.bound {r c : Nat} {b : List Int} {pl : Int} {cc : Nat} (h : Cost r c b pl cc) : ∃ c', Cost r c b pl c' ∧ c' ≤ cc ∧ c' ≤ r * c := by
  obtain ⟨i, hl, hp⟩ := h
  obtain ⟨l, c', h1, h2, h3, _, _⟩ := hp.bound (n := r * c) (fun i _ => coG_le b pl i) (fun i hi => hi.1)
  exact ⟨c', ⟨i, hl, h1.toP _ _ rfl⟩, h2, h3⟩

section
variable {r c : Nat} {b : List Int} {pl : Int}
theorem leastN_le (l : List Int) (js : List Int) : ∀ x, leastN l js x ≤ x ∧ ∀ j, j ∈ js → leastN l js x ≤ rd l j := by
  induction js with
  | nil => intro x; exact ⟨Int.le_refl _, fun j hj => by cases hj⟩
  | cons j js ih =>
    intro x
    rw [leastN_cons]
    obtain ⟨h1, h2⟩ := ih (min x (rd l j))
    refine ⟨by omega, fun y hy => ?_⟩
    rcases List.mem_cons.mp hy with rfl | hy
    · omega
    · exact h2 y hy
theorem leastN_one (l : List Int) (js : List Int) : ∀ x, leastN l js x = x ∨ ∃ j ∈ js, leastN l js x = rd l j := by
  induction js with
  | nil => intro x; exact .inl rfl
  | cons j js ih =>
    intro x
    rw [leastN_cons]
    rcases ih (min x (rd l j)) with h | ⟨y, hy, h⟩
    · by_cases hle : x ≤ rd l j
      · left; omega
      · right; exact ⟨j, by simp, by omega⟩
    · right; exact ⟨y, List.mem_cons_of_mem _ hy, h⟩

/-- What is told so far is true. -/
def Tru (r c : Nat) (b : List Int) (pl : Int) (top : Nat) (l : List Int) : Prop := ∀ i, i < r * c → rd l i = (top : Int) ∨ ∃ cc : Nat, PG r c b pl cc i ∧ rd l (i : Nat) = (cc : Int) ∧ cc < top

theorem new_tru (hr : 1 ≤ r) (hc : 1 ≤ c) (hn : r * c ≤ 30) {l : List Int} (hT : Tru r c b pl 1000 l) (hB : Bd l) {i : Nat} (hi : i < r * c) (h : newN r c b pl l i < 1000) :
    ∃ cc : Nat, PG r c b pl cc i ∧ newN r c b pl l i = (cc : Int) ∧ cc < 1000 := by
  unfold newN at h ⊢
  have hx0 : 0 ≤ leastN l (hexL r c i 6) (if firstN c pl i then 0 else 1000) := by
    split
    · exact (leastN_bd hB _ 0 (by omega) (by omega)).1
    · exact (leastN_bd hB _ 1000 (by omega) (by omega)).1
  have hok : okG r c b pl i ∧ costN b pl i = (coG b pl i : Nat) := by
    unfold okG coG costN at *
    by_cases h1 : rd b i = pl
    · simp only [h1, if_true]; exact ⟨⟨hi, .inl trivial⟩, rfl⟩
    · by_cases h2 : rd b i = 0
      · simp only [if_neg h1, if_pos h2]; exact ⟨⟨hi, .inr h2⟩, rfl⟩
      · rw [if_neg h1, if_neg h2] at h; omega
  rcases leastN_one l (hexL r c i 6) (if firstN c pl i then 0 else 1000) with h1 | ⟨j, hj, h1⟩
  · by_cases hf : firstN c pl i = true
    · rw [if_pos hf] at h h1 ⊢
      refine ⟨coG b pl i, .start hf hok.1, by rw [h1, hok.2]; omega, ?_⟩
      rw [h1, hok.2] at h; omega
    · rw [if_neg hf] at h h1 ⊢
      exfalso
      have := costN_bd b pl i
      omega
  · have hjm := hexL_mem (show (1 : Int) ≤ (c : Int) by omega) 6 j hj
    obtain ⟨j, rfl⟩ := Int.eq_ofNat_of_zero_le hjm.1
    have hjn : j < r * c := by have := hjm.2; exact_mod_cast this
    have hadj := (near_iff hr hc hn hi hjn).mp hj
    rw [h1, hok.2] at h
    rw [h1, hok.2]
    rcases hT j hjn with h2 | ⟨cc, hP, h2, h3⟩
    · omega
    · exact ⟨cc + coG b pl i, .step hP ⟨⟨hjn, hi⟩, adjI_symm hadj⟩ hok.1, by omega, by omega⟩

theorem rel_tru (hr : 1 ≤ r) (hc : 1 ≤ c) (hn : r * c ≤ 30) {l : List Int} (hT : Tru r c b pl 1000 l) (hB : Bd l) (hl : l.length = r * c) {i : Nat} (hi : i < r * c) : Tru r c b pl 1000 (relL r c b pl l i) := by
  unfold relL
  split
  · rename_i hlt
    intro x hx
    rw [rd_set l i x _ (by omega) (by omega)]
    split
    · rename_i he
      have hxi : i = x := by simpa using he
      subst hxi
      right
      have := hB i
      exact new_tru hr hc hn hT hB hi (by omega)
    · exact hT x hx
  · exact hT

/-! the sum of what is told falls -/
def sumN : List Int → Nat
  | [] => 0
  | x :: t => x.toNat + sumN t
theorem sum_set (l : List Int) : ∀ (i : Nat) (v : Int), i < l.length → 0 ≤ v → v < rd l i → sumN (l.set i v) < sumN l := by
  induction l with
  | nil => intro i v h; simp at h
  | cons x t ih =>
    intro i v hi h0 h1
    cases i with
    | zero =>
      have : rd (x :: t) ((0 : Nat) : Int) = x := by simp [rd]
      rw [this] at h1
      simp only [List.set_cons_zero, sumN]
      omega
    | succ i =>
      have : rd (x :: t) ((i + 1 : Nat) : Int) = rd t (i : Nat) := by
        unfold rd
        rw [show ((i + 1 : Nat) : Int).toNat = i + 1 by omega, show ((i : Nat) : Int).toNat = i by omega]
        simp
      rw [this] at h1
      have := ih i v (by simpa using hi) h0 h1
      simp only [List.set_cons_succ, sumN]
      omega
theorem rel_sum {l : List Int} (hB : Bd l) {i : Nat} (hi : i < l.length) (h : relB r c b pl l i = true) : sumN (relL r c b pl l i) < sumN l := by
  unfold relB at h
  rw [decide_eq_true_eq] at h
  unfold relL
  rw [if_pos h]
  have := newN_bd hB r c b pl i
  exact sum_set l i _ hi this h
theorem rel_no {l : List Int} {i : Nat} (h : relB r c b pl l i = false) : relL r c b pl l i = l ∧ ¬ newN r c b pl l i < rd l i := by
  unfold relB at h
  rw [decide_eq_false_iff_not] at h
  unfold relL
  rw [if_neg h]
  exact ⟨rfl, h⟩

structure Ok (r c : Nat) (b : List Int) (pl : Int) (l : List Int) : Prop where
  tru : Tru r c b pl 1000 l
  bd : Bd l
  len : l.length = r * c
theorem Ok.rel (hr : 1 ≤ r) (hc : 1 ≤ c) (hn : r * c ≤ 30) {l : List Int} (h : Ok r c b pl l) {i : Nat} (hi : i < r * c) : Ok r c b pl (relL r c b pl l i) :=
  ⟨rel_tru hr hc hn h.tru h.bd h.len hi, relL_bd h.bd r c b pl i (by omega) (by rw [h.len]; exact_mod_cast hi), (relL_len _ _ _ _ _ _).trans h.len⟩

theorem pass_ok (hr : 1 ≤ r) (hc : 1 ≤ c) (hn : r * c ≤ 30) : ∀ (m : Nat) (l : List Int) (more : Bool) (i : Nat), i + m = r * c → Ok r c b pl l →
    Ok r c b pl (passN r c b pl m l more i).1 ∧ sumN (passN r c b pl m l more i).1 ≤ sumN l ∧
    ((passN r c b pl m l more i).2 = true → more = true ∨ sumN (passN r c b pl m l more i).1 < sumN l) ∧
    ((passN r c b pl m l more i).2 = false → more = false ∧ (passN r c b pl m l more i).1 = l ∧ ∀ j : Nat, i ≤ j → j < r * c → ¬ newN r c b pl l j < rd l j) := by
  intro m
  induction m with
  | zero =>
    intro l more i him h
    refine ⟨h, Nat.le_refl _, fun h2 => .inl h2, fun h2 => ⟨h2, rfl, fun j h3 h4 => by omega⟩⟩
  | succ m ih =>
    intro l more i him h
    have hi : i < r * c := by omega
    have hil : i < l.length := by rw [h.len]; exact hi
    obtain ⟨a1, a2, a3, a4⟩ := ih (relL r c b pl l i) (more || relB r c b pl l i) (i + 1) (by omega) (h.rel hr hc hn hi)
    unfold passN
    refine ⟨a1, ?_, ?_, ?_⟩
    · cases hb : relB r c b pl l i with
      | true => rw [hb] at a2; have := rel_sum h.bd hil hb; omega
      | false => rw [hb] at a2; rw [(rel_no hb).1] at a2; rw [(rel_no hb).1]; exact a2
    · intro h2
      cases hb : relB r c b pl l i with
      | true =>
        rw [hb] at h2 a2
        right
        have := rel_sum h.bd hil hb
        omega
      | false =>
        rw [hb, Bool.or_false, (rel_no hb).1] at a3 h2
        rw [Bool.or_false, (rel_no hb).1]
        exact a3 h2
    · intro h2
      obtain ⟨b1, b2, b3⟩ := a4 h2
      rw [Bool.or_eq_false_iff] at b1
      obtain ⟨b1, hb⟩ := b1
      have hno := rel_no hb
      rw [hno.1] at b3
      refine ⟨b1, ?_, ?_⟩
      · rw [b2, hno.1]
      · intro j h3 h4
        by_cases e : j = i
        · subst e; exact hno.2
        · exact b3 j (by omega) h4

/-- Nothing changes any more. -/
def Fixed (r c : Nat) (b : List Int) (pl : Int) (l : List Int) : Prop := ∀ j : Nat, j < r * c → ¬ newN r c b pl l j < rd l j
theorem iter_ends (hr : 1 ≤ r) (hc : 1 ≤ c) (hn : r * c ≤ 30) (hb : b.length = r * c) : ∀ (m : Nat) (l : List Int), sumN l < m → Ok r c b pl l → ∃ fin, iterN r c b pl m l = some fin ∧ Ok r c b pl fin ∧ Fixed r c b pl fin := by
  intro m
  induction m with
  | zero => intro l h; omega
  | succ m ih =>
    intro l hs h
    obtain ⟨a1, a2, a3, a4⟩ := pass_ok (b := b) (pl := pl) hr hc hn b.length l false 0 (by omega) h
    unfold iterN
    cases hb2 : (passN r c b pl b.length l false 0).2 with
    | true =>
      rw [if_pos rfl]
      refine ih _ ?_ a1
      rcases a3 hb2 with h1 | h1
      · cases h1
      · omega
    | false =>
      rw [if_neg (by simp)]
      obtain ⟨_, b2, b3⟩ := a4 hb2
      exact ⟨_, rfl, a1, by rw [b2]; exact fun j hj => b3 j (Nat.zero_le _) hj⟩

theorem fixed_le (hr : 1 ≤ r) (hc : 1 ≤ c) (hn : r * c ≤ 30) {l : List Int} (hF : Fixed r c b pl l) {cc i : Nat} (h : PG r c b pl cc i) : rd l i ≤ (cc : Int) := by
  have hcost : ∀ i, okG r c b pl i → costN b pl i = (coG b pl i : Nat) := by
    intro i ⟨_, ho⟩
    unfold costN coG
    by_cases h1 : rd b i = pl
    · simp [h1]
    · rcases ho with ho | ho
      · exact absurd ho h1
      · rw [if_neg h1, if_neg h1, if_pos ho]; rfl
  induction h with
  | @start i h1 h2 =>
    have hf := hF i h2.1
    have := hcost i h2
    unfold newN at hf
    have h1' : firstN c pl i = true := h1
    rw [if_pos h1'] at hf
    have := (leastN_le l (hexL r c i 6) 0).1
    omega
  | @step cc j i hP h1 h2 ih =>
    have hf := hF i h2.1
    have := hcost i h2
    unfold newN at hf
    have hj : (j : Int) ∈ hexL r c i 6 := (near_iff hr hc hn h2.1 h1.1.1).mpr (adjI_symm h1.2)
    have := (leastN_le l (hexL r c i 6) (if firstN c pl i then 0 else 1000)).2 _ hj
    omega

theorem out_tells (l : List Int) (n : Nat) : (outN r c pl l n ≤ 1000 ∧ ∀ i : Nat, i < n → lastN r c pl i = true → outN r c pl l n ≤ rd l i) ∧ (outN r c pl l n = 1000 ∨ ∃ i : Nat, i < n ∧ lastN r c pl i = true ∧ outN r c pl l n = rd l i) := by
  induction n with
  | zero => exact ⟨⟨by unfold outN; omega, fun i hi => by omega⟩, .inl rfl⟩
  | succ n ih =>
    obtain ⟨⟨h1, h2⟩, h3⟩ := ih
    unfold outN
    by_cases hl : lastN r c pl n = true
    · rw [if_pos hl]
      refine ⟨⟨by omega, fun i hi hli => ?_⟩, ?_⟩
      · by_cases e : i = n
        · subst e; omega
        · have := h2 i (by omega) hli; omega
      · by_cases hle : outN r c pl l n ≤ rd l n
        · rcases h3 with h | ⟨i, a, b', c'⟩
          · left; omega
          · right; exact ⟨i, by omega, b', by omega⟩
        · right; exact ⟨n, by omega, hl, by omega⟩
    · rw [if_neg hl]
      refine ⟨⟨h1, fun i hi hli => ?_⟩, ?_⟩
      · by_cases e : i = n
        · subst e; exact absurd hli hl
        · exact h2 i (by omega) hli
      · rcases h3 with h | ⟨i, a, b', c'⟩
        · exact .inl h
        · exact .inr ⟨i, by omega, b', c'⟩

theorem start_ok : Ok r c b pl (List.replicate (r * c) 1000) := by
  have hrd : ∀ j : Int, rd (List.replicate (r * c) 1000) j = if j.toNat < r * c then 1000 else 0 := by
    intro j
    unfold rd
    rw [List.getD_eq_getElem?_getD, List.getElem?_replicate]
    split <;> rfl
  refine ⟨fun i hi => .inl ?_, fun j => ?_, by simp⟩
  · rw [hrd]; simp; omega
  · rw [hrd]; split <;> omega

/-- What need tells: the least cost, or 1000 if there is none. -/
theorem need_tells (hr : 1 ≤ r) (hc : 1 ≤ c) (hn : r * c ≤ 30) (hb : b.length = r * c) (hpl : pl = 1 ∨ pl = 2) :
    ∃ (K : Nat) (v : Int), (∀ k, K ≤ k → impl_need.f k r c b pl = some v) ∧ ((v = 1000 ∧ ∀ cc, ¬ Cost r c b pl cc) ∨ (∃ cc : Nat, v = cc ∧ cc ≤ r * c ∧ Cost r c b pl cc ∧ ∀ c', Cost r c b pl c' → cc ≤ c')) := by
  have hr2 : r ≤ r * c := Nat.le_mul_of_pos_right r hc
  have hc2 : c ≤ r * c := Nat.le_mul_of_pos_left c hr
  obtain ⟨fin, h1, h2, h3⟩ := iter_ends (b := b) (pl := pl) hr hc hn hb (sumN (List.replicate (r * c) 1000) + 1) _ (Nat.lt_succ_self _) start_ok
  have hdom : NDom r c b pl := ⟨⟨⟨by omega, by omega⟩, by omega, by omega⟩, ⟨by rw [hb]; push_cast; rfl, by omega⟩, hpl⟩
  refine ⟨sumN (List.replicate (r * c) 1000) + 1, outN r c pl fin (r * c), ?_, ?_⟩
  · intro k hk
    refine at_rounds (fun k => impl_need.mono _ _ _ _ k) hk ?_
    unfold impl_need.f
    rw [if_pos hdom, hb, h1]
    show some (outN r c pl fin fin.length) = _
    rw [h2.len]
  · obtain ⟨⟨a1, a2⟩, a3⟩ := out_tells (r := r) (c := c) (pl := pl) fin (r * c)
    have hle : ∀ cc, Cost r c b pl cc → outN r c pl fin (r * c) ≤ cc := by
      rintro cc ⟨i, hl, hP⟩
      have hi := hP.okEnd.1
      have := a2 i hi hl
      have := fixed_le hr hc hn h3 hP
      omega
    have hno : outN r c pl fin (r * c) = 1000 → ∀ cc, ¬ Cost r c b pl cc := by
      intro h cc hcc
      obtain ⟨c', hc', _, h4⟩ := hcc.bound
      have := hle c' hc'
      omega
    rcases a3 with h | ⟨i, hi, hl, h⟩
    · exact .inl ⟨h, hno h⟩
    · rcases h2.tru i hi with h4 | ⟨cc, hP, h4, h5⟩
      · exact .inl ⟨by omega, hno (by omega)⟩
      · right
        have hC : Cost r c b pl cc := ⟨i, hl, hP⟩
        have hmin : ∀ c', Cost r c b pl c' → cc ≤ c' := by
          intro c' hc'
          have := hle c' hc'
          omega
        obtain ⟨c', hc', _, h6⟩ := hC.bound
        have := hmin c' hc'
        exact ⟨cc, by omega, by omega, hC, hmin⟩
end
end Go.Proofs.Ytjajahofbhcioaa.Pq
