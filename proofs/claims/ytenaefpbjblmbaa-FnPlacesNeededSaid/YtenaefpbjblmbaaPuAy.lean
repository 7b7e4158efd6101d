/- Plain: neighbours of places of boards of hexagons, by the kernel, for all boards with at most 30 places. Plain: what the program's need tells: the least cost of a path. For all boards with at most 30 places. Plain: what the reference's hxNeed tells: the least cost of a path. For all boards with at most 30 places. Plain: the printed loops of the reference's hxNeed are the rounds. For all boards with at most 30 places. Plain: boards and players; the program's and the reference's answers on them are the same. For all ints, lists shorter than 2^40. Plain: paths of no cost of both players, and the theorem that on full boards one of them has won, and never both. For all boards with at most 30 places. -/
import Derived.Test.YtenaefpbjblmbaaQx3
import Derived.Test.YtenaefpbjblmbaaGq
import Derived.Test.YtenaefpbjblmbaaHu
import Derived.Test.YtenaefpbjblmbaaGs
import Derived.Test.YtenaefpbjblmbaaHg
import Derived.Test.YtenaefpbjblmbaaQx4
import Derived.Test.YtenaefpbjblmbaaPmL
import Derived.Test.YtenaefpbjblmbaaQx5
import Derived.Test.YtenaefpbjblmbaaQx8
import Derived.Test.YtenaefpbjblmbaaHe
namespace Go.Proofs.Ytenaefpbjblmbaa.Pa
open Go.RowKit Go.Proofs.Ytenaefpbjblmbaa.Q Go.Proofs.Ytenaefpbjblmbaa.Given Go.Proofs.YtenaefpbjblmbaaW.PrintWords Go.Proofs.YtenaefpbjblmbaaW.PrintLast
set_option linter.unusedVariables false
set_option linter.unusedSimpArgs false

def adjI (c : Int) (i j : Int) : Prop := Go.Proofs.Ytenaefpbjblmbaa.Hu.adj (i / c) (i % c) (j / c) (j % c)
instance (c i j : Int) : Decidable (adjI c i j) := by unfold adjI Go.Proofs.Ytenaefpbjblmbaa.Hu.adj; infer_instance
theorem adjI_symm {c i j : Int} (h : adjI c i j) : adjI c j i := Go.Proofs.Ytenaefpbjblmbaa.Hu.adj_symm h

def chkP (r c i : Nat) : Bool := (spec_hxAround.f 12 r c i == some (hexL r c i 6)) && (List.range (r * c)).all fun j => decide (((j : Nat) : Int) ∈ hexL r c i 6) == decide (adjI c i j)
def chk (c : Nat) : Bool := (List.range 31).all fun r => if decide (1 ≤ r) && decide (r * c ≤ 30) then (List.range (r * c)).all fun i => chkP r c i else true
set_option maxRecDepth 1000000 in
theorem chkAll : (List.range 31).all chk = true := by decide +kernel

theorem chk_of {r c i : Nat} (hr : 1 ≤ r) (hc : 1 ≤ c) (hn : r * c ≤ 30) (hi : i < r * c) : chkP r c i = true := by
  have h := chkAll
  rw [List.all_eq_true] at h
  have hc2 : c ≤ r * c := Nat.le_mul_of_pos_left c hr
  have hr2 : r ≤ r * c := Nat.le_mul_of_pos_right r hc
  have h1 := h c (List.mem_range.mpr (by omega))
  unfold chk at h1
  rw [List.all_eq_true] at h1
  have h2 := h1 r (List.mem_range.mpr (by omega))
  rw [if_pos (by simp [hr, hn])] at h2
  rw [List.all_eq_true] at h2
  exact h2 i (List.mem_range.mpr hi)
theorem around {r c i : Nat} (hr : 1 ≤ r) (hc : 1 ≤ c) (hn : r * c ≤ 30) (hi : i < r * c) (k : Nat) (hk : 12 ≤ k) : spec_hxAround.f k r c i = some (hexL r c i 6) := by
  have h := chk_of hr hc hn hi
  unfold chkP at h
  rw [Bool.and_eq_true] at h
  exact at_rounds (fun k => spec_hxAround.mono _ _ _ k) hk (eq_of_beq h.1)
theorem near_iff {r c i j : Nat} (hr : 1 ≤ r) (hc : 1 ≤ c) (hn : r * c ≤ 30) (hi : i < r * c) (hj : j < r * c) : ((j : Nat) : Int) ∈ hexL r c i 6 ↔ adjI c i j := by
  have h := chk_of hr hc hn hi
  unfold chkP at h
  rw [Bool.and_eq_true, List.all_eq_true] at h
  have h2 := h.2 j (List.mem_range.mpr hj)
  have h3 := eq_of_beq h2
  exact decide_eq_decide.mp h3
end Go.Proofs.Ytenaefpbjblmbaa.Pa

namespace Go.Proofs.Ytenaefpbjblmbaa.Pq
open Go.RowKit Go.Proofs.Ytenaefpbjblmbaa.Q Go.Proofs.Ytenaefpbjblmbaa.Given Go.Proofs.Ytenaefpbjblmbaa.Hg Go.Proofs.Ytenaefpbjblmbaa.Pa Go.Proofs.YtenaefpbjblmbaaW.PrintWords Go.Proofs.YtenaefpbjblmbaaW.PrintLast
set_option linter.unusedVariables false
set_option linter.unusedSimpArgs false

/-! the graph of a board and a player -/
def nbG (r c : Nat) (j i : Nat) : Prop := (j < r * c ∧ i < r * c) ∧ adjI c j i
def stG (c : Nat) (pl : Int) (i : Nat) : Prop := firstN c pl i = true
def okG (r c : Nat) (b : List Int) (pl : Int) (i : Nat) : Prop := i < r * c ∧ (rd b i = pl ∨ rd b i = 0)
def coG (b : List Int) (pl : Int) (i : Nat) : Nat := if rd b i = pl then 0 else 1
abbrev PG (r c : Nat) (b : List Int) (pl : Int) (cc i : Nat) : Prop := P (nbG r c) (stG c pl) (okG r c b pl) (coG b pl) cc i
/-- The cost of a path to the last line. -/
def Cost (r c : Nat) (b : List Int) (pl : Int) (cc : Nat) : Prop := ∃ i : Nat, lastN r c pl i = true ∧ PG r c b pl cc i
theorem coG_le (b : List Int) (pl : Int) (i : Nat) : coG b pl i ≤ 1 := by unfold coG; split <;> omega
theorem Cost.bound {r c : Nat} {b : List Int} {pl : Int} {cc : Nat} (h : Cost r c b pl cc) : ∃ c', Cost r c b pl c' ∧ c' ≤ cc ∧ c' ≤ r * c := by
  obtain ⟨i, hl, hp⟩ := h
  obtain ⟨l, c', h1, h2, h3, _, _⟩ := hp.bound (n := r * c) (fun i _ => coG_le b pl i) (fun i hi => hi.1)
  exact ⟨c', ⟨i, hl, h1.toP _ _ rfl⟩, h2, h3⟩

section
variable {r c : Nat} {b : List Int} {pl : Int}
theorem leastN_le (l : List Int) (js : List Int) : ∀ x, leastN l js x ≤ x ∧ ∀ j, j ∈ js → leastN l js x ≤ rd l j := by
  induction js with
  | nil => intro x; exact ⟨Int.le_refl _, fun j hj => by cases hj⟩
  | cons j js ih =>
    intro x
    rw [leastN_cons]
    obtain ⟨h1, h2⟩ := ih (min x (rd l j))
    refine ⟨by omega, fun y hy => ?_⟩
    rcases List.mem_cons.mp hy with rfl | hy
    · omega
    · exact h2 y hy
theorem leastN_one (l : List Int) (js : List Int) : ∀ x, leastN l js x = x ∨ ∃ j ∈ js, leastN l js x = rd l j := by
  induction js with
  | nil => intro x; exact .inl rfl
  | cons j js ih =>
    intro x
    rw [leastN_cons]
    rcases ih (min x (rd l j)) with h | ⟨y, hy, h⟩
    · by_cases hle : x ≤ rd l j
      · left; omega
      · right; exact ⟨j, by simp, by omega⟩
    · right; exact ⟨y, List.mem_cons_of_mem _ hy, h⟩

/-- What is told so far is true. -/
def Tru (r c : Nat) (b : List Int) (pl : Int) (top : Nat) (l : List Int) : Prop := ∀ i, i < r * c → rd l i = (top : Int) ∨ ∃ cc : Nat, PG r c b pl cc i ∧ rd l (i : Nat) = (cc : Int) ∧ cc < top

theorem new_tru (hr : 1 ≤ r) (hc : 1 ≤ c) (hn : r * c ≤ 30) {l : List Int} (hT : Tru r c b pl 1000 l) (hB : Bd l) {i : Nat} (hi : i < r * c) (h : newN r c b pl l i < 1000) :
    ∃ cc : Nat, PG r c b pl cc i ∧ newN r c b pl l i = (cc : Int) ∧ cc < 1000 := by
  unfold newN at h ⊢
  have hx0 : 0 ≤ leastN l (hexL r c i 6) (if firstN c pl i then 0 else 1000) := by
    split
    · exact (leastN_bd hB _ 0 (by omega) (by omega)).1
    · exact (leastN_bd hB _ 1000 (by omega) (by omega)).1
  have hok : okG r c b pl i ∧ costN b pl i = (coG b pl i : Nat) := by
    unfold okG coG costN at *
    by_cases h1 : rd b i = pl
    · simp only [h1, if_true]; exact ⟨⟨hi, .inl trivial⟩, rfl⟩
    · by_cases h2 : rd b i = 0
      · simp only [if_neg h1, if_pos h2]; exact ⟨⟨hi, .inr h2⟩, rfl⟩
      · rw [if_neg h1, if_neg h2] at h; omega
  rcases leastN_one l (hexL r c i 6) (if firstN c pl i then 0 else 1000) with h1 | ⟨j, hj, h1⟩
  · by_cases hf : firstN c pl i = true
    · rw [if_pos hf] at h h1 ⊢
      refine ⟨coG b pl i, .start hf hok.1, by rw [h1, hok.2]; omega, ?_⟩
      rw [h1, hok.2] at h; omega
    · rw [if_neg hf] at h h1 ⊢
      exfalso
      have := costN_bd b pl i
      omega
  · have hjm := hexL_mem (show (1 : Int) ≤ (c : Int) by omega) 6 j hj
    obtain ⟨j, rfl⟩ := Int.eq_ofNat_of_zero_le hjm.1
    have hjn : j < r * c := by have := hjm.2; exact_mod_cast this
    have hadj := (near_iff hr hc hn hi hjn).mp hj
    rw [h1, hok.2] at h
    rw [h1, hok.2]
    rcases hT j hjn with h2 | ⟨cc, hP, h2, h3⟩
    · omega
    · exact ⟨cc + coG b pl i, .step hP ⟨⟨hjn, hi⟩, adjI_symm hadj⟩ hok.1, by omega, by omega⟩

theorem rel_tru (hr : 1 ≤ r) (hc : 1 ≤ c) (hn : r * c ≤ 30) {l : List Int} (hT : Tru r c b pl 1000 l) (hB : Bd l) (hl : l.length = r * c) {i : Nat} (hi : i < r * c) : Tru r c b pl 1000 (relL r c b pl l i) := by
  unfold relL
  split
  · rename_i hlt
    intro x hx
    rw [rd_set l i x _ (by omega) (by omega)]
    split
    · rename_i he
      have hxi : i = x := by simpa using he
      subst hxi
      right
      have := hB i
      exact new_tru hr hc hn hT hB hi (by omega)
    · exact hT x hx
  · exact hT

/-! the sum of what is told falls -/
def sumN : List Int → Nat
  | [] => 0
  | x :: t => x.toNat + sumN t
theorem sum_set (l : List Int) : ∀ (i : Nat) (v : Int), i < l.length → 0 ≤ v → v < rd l i → sumN (l.set i v) < sumN l := by
  induction l with
  | nil => intro i v h; simp at h
  | cons x t ih =>
    intro i v hi h0 h1
    cases i with
    | zero =>
      have : rd (x :: t) ((0 : Nat) : Int) = x := by simp [rd]
      rw [this] at h1
      simp only [List.set_cons_zero, sumN]
      omega
    | succ i =>
      have : rd (x :: t) ((i + 1 : Nat) : Int) = rd t (i : Nat) := by
        unfold rd
        rw [show ((i + 1 : Nat) : Int).toNat = i + 1 by omega, show ((i : Nat) : Int).toNat = i by omega]
        simp
      rw [this] at h1
      have := ih i v (by simpa using hi) h0 h1
      simp only [List.set_cons_succ, sumN]
      omega
theorem rel_sum {l : List Int} (hB : Bd l) {i : Nat} (hi : i < l.length) (h : relB r c b pl l i = true) : sumN (relL r c b pl l i) < sumN l := by
  unfold relB at h
  rw [decide_eq_true_eq] at h
  unfold relL
  rw [if_pos h]
  have := newN_bd hB r c b pl i
  exact sum_set l i _ hi this h
theorem rel_no {l : List Int} {i : Nat} (h : relB r c b pl l i = false) : relL r c b pl l i = l ∧ ¬ newN r c b pl l i < rd l i := by
  unfold relB at h
  rw [decide_eq_false_iff_not] at h
  unfold relL
  rw [if_neg h]
  exact ⟨rfl, h⟩

structure Ok (r c : Nat) (b : List Int) (pl : Int) (l : List Int) : Prop where
  tru : Tru r c b pl 1000 l
  bd : Bd l
  len : l.length = r * c
theorem Ok.rel (hr : 1 ≤ r) (hc : 1 ≤ c) (hn : r * c ≤ 30) {l : List Int} (h : Ok r c b pl l) {i : Nat} (hi : i < r * c) : Ok r c b pl (relL r c b pl l i) :=
  ⟨rel_tru hr hc hn h.tru h.bd h.len hi, relL_bd h.bd r c b pl i (by omega) (by rw [h.len]; exact_mod_cast hi), (relL_len _ _ _ _ _ _).trans h.len⟩

theorem pass_ok (hr : 1 ≤ r) (hc : 1 ≤ c) (hn : r * c ≤ 30) : ∀ (m : Nat) (l : List Int) (more : Bool) (i : Nat), i + m = r * c → Ok r c b pl l →
    Ok r c b pl (passN r c b pl m l more i).1 ∧ sumN (passN r c b pl m l more i).1 ≤ sumN l ∧
    ((passN r c b pl m l more i).2 = true → more = true ∨ sumN (passN r c b pl m l more i).1 < sumN l) ∧
    ((passN r c b pl m l more i).2 = false → more = false ∧ (passN r c b pl m l more i).1 = l ∧ ∀ j : Nat, i ≤ j → j < r * c → ¬ newN r c b pl l j < rd l j) := by
  intro m
  induction m with
  | zero =>
    intro l more i him h
    refine ⟨h, Nat.le_refl _, fun h2 => .inl h2, fun h2 => ⟨h2, rfl, fun j h3 h4 => by omega⟩⟩
  | succ m ih =>
    intro l more i him h
    have hi : i < r * c := by omega
    have hil : i < l.length := by rw [h.len]; exact hi
    obtain ⟨a1, a2, a3, a4⟩ := ih (relL r c b pl l i) (more || relB r c b pl l i) (i + 1) (by omega) (h.rel hr hc hn hi)
    unfold passN
    refine ⟨a1, ?_, ?_, ?_⟩
    · cases hb : relB r c b pl l i with
      | true => rw [hb] at a2; have := rel_sum h.bd hil hb; omega
      | false => rw [hb] at a2; rw [(rel_no hb).1] at a2; rw [(rel_no hb).1]; exact a2
    · intro h2
      cases hb : relB r c b pl l i with
      | true =>
        rw [hb] at h2 a2
        right
        have := rel_sum h.bd hil hb
        omega
      | false =>
        rw [hb, Bool.or_false, (rel_no hb).1] at a3 h2
        rw [Bool.or_false, (rel_no hb).1]
        exact a3 h2
    · intro h2
      obtain ⟨b1, b2, b3⟩ := a4 h2
      rw [Bool.or_eq_false_iff] at b1
      obtain ⟨b1, hb⟩ := b1
      have hno := rel_no hb
      rw [hno.1] at b3
      refine ⟨b1, ?_, ?_⟩
      · rw [b2, hno.1]
      · intro j h3 h4
        by_cases e : j = i
        · subst e; exact hno.2
        · exact b3 j (by omega) h4

/-- Nothing changes any more. -/
def Fixed (r c : Nat) (b : List Int) (pl : Int) (l : List Int) : Prop := ∀ j : Nat, j < r * c → ¬ newN r c b pl l j < rd l j
theorem iter_ends (hr : 1 ≤ r) (hc : 1 ≤ c) (hn : r * c ≤ 30) (hb : b.length = r * c) : ∀ (m : Nat) (l : List Int), sumN l < m → Ok r c b pl l → ∃ fin, iterN r c b pl m l = some fin ∧ Ok r c b pl fin ∧ Fixed r c b pl fin := by
  intro m
  induction m with
  | zero => intro l h; omega
  | succ m ih =>
    intro l hs h
    obtain ⟨a1, a2, a3, a4⟩ := pass_ok (b := b) (pl := pl) hr hc hn b.length l false 0 (by omega) h
    unfold iterN
    cases hb2 : (passN r c b pl b.length l false 0).2 with
    | true =>
      rw [if_pos rfl]
      refine ih _ ?_ a1
      rcases a3 hb2 with h1 | h1
      · cases h1
      · omega
    | false =>
      rw [if_neg (by simp)]
      obtain ⟨_, b2, b3⟩ := a4 hb2
      exact ⟨_, rfl, a1, by rw [b2]; exact fun j hj => b3 j (Nat.zero_le _) hj⟩

theorem fixed_le (hr : 1 ≤ r) (hc : 1 ≤ c) (hn : r * c ≤ 30) {l : List Int} (hF : Fixed r c b pl l) {cc i : Nat} (h : PG r c b pl cc i) : rd l i ≤ (cc : Int) := by
  have hcost : ∀ i, okG r c b pl i → costN b pl i = (coG b pl i : Nat) := by
    intro i ⟨_, ho⟩
    unfold costN coG
    by_cases h1 : rd b i = pl
    · simp [h1]
    · rcases ho with ho | ho
      · exact absurd ho h1
      · rw [if_neg h1, if_neg h1, if_pos ho]; rfl
  induction h with
  | @start i h1 h2 =>
    have hf := hF i h2.1
    have := hcost i h2
    unfold newN at hf
    have h1' : firstN c pl i = true := h1
    rw [if_pos h1'] at hf
    have := (leastN_le l (hexL r c i 6) 0).1
    omega
  | @step cc j i hP h1 h2 ih =>
    have hf := hF i h2.1
    have := hcost i h2
    unfold newN at hf
    have hj : (j : Int) ∈ hexL r c i 6 := (near_iff hr hc hn h2.1 h1.1.1).mpr (adjI_symm h1.2)
    have := (leastN_le l (hexL r c i 6) (if firstN c pl i then 0 else 1000)).2 _ hj
    omega

theorem out_tells (l : List Int) (n : Nat) : (outN r c pl l n ≤ 1000 ∧ ∀ i : Nat, i < n → lastN r c pl i = true → outN r c pl l n ≤ rd l i) ∧ (outN r c pl l n = 1000 ∨ ∃ i : Nat, i < n ∧ lastN r c pl i = true ∧ outN r c pl l n = rd l i) := by
  induction n with
  | zero => exact ⟨⟨by unfold outN; omega, fun i hi => by omega⟩, .inl rfl⟩
  | succ n ih =>
    obtain ⟨⟨h1, h2⟩, h3⟩ := ih
    unfold outN
    by_cases hl : lastN r c pl n = true
    · rw [if_pos hl]
      refine ⟨⟨by omega, fun i hi hli => ?_⟩, ?_⟩
      · by_cases e : i = n
        · subst e; omega
        · have := h2 i (by omega) hli; omega
      · by_cases hle : outN r c pl l n ≤ rd l n
        · rcases h3 with h | ⟨i, a, b', c'⟩
          · left; omega
          · right; exact ⟨i, by omega, b', by omega⟩
        · right; exact ⟨n, by omega, hl, by omega⟩
    · rw [if_neg hl]
      refine ⟨⟨h1, fun i hi hli => ?_⟩, ?_⟩
      · by_cases e : i = n
        · subst e; exact absurd hli hl
        · exact h2 i (by omega) hli
      · rcases h3 with h | ⟨i, a, b', c'⟩
        · exact .inl h
        · exact .inr ⟨i, by omega, b', c'⟩

theorem start_ok : Ok r c b pl (List.replicate (r * c) 1000) := by
  have hrd : ∀ j : Int, rd (List.replicate (r * c) 1000) j = if j.toNat < r * c then 1000 else 0 := by
    intro j
    unfold rd
    rw [List.getD_eq_getElem?_getD, List.getElem?_replicate]
    split <;> rfl
  refine ⟨fun i hi => .inl ?_, fun j => ?_, by simp⟩
  · rw [hrd]; simp; omega
  · rw [hrd]; split <;> omega

/-- What need tells: the least cost, or 1000 if there is none. -/
theorem need_tells (hr : 1 ≤ r) (hc : 1 ≤ c) (hn : r * c ≤ 30) (hb : b.length = r * c) (hpl : pl = 1 ∨ pl = 2) :
    ∃ (K : Nat) (v : Int), (∀ k, K ≤ k → impl_need.f k r c b pl = some v) ∧ ((v = 1000 ∧ ∀ cc, ¬ Cost r c b pl cc) ∨ (∃ cc : Nat, v = cc ∧ cc ≤ r * c ∧ Cost r c b pl cc ∧ ∀ c', Cost r c b pl c' → cc ≤ c')) := by
  have hr2 : r ≤ r * c := Nat.le_mul_of_pos_right r hc
  have hc2 : c ≤ r * c := Nat.le_mul_of_pos_left c hr
  obtain ⟨fin, h1, h2, h3⟩ := iter_ends (b := b) (pl := pl) hr hc hn hb (sumN (List.replicate (r * c) 1000) + 1) _ (Nat.lt_succ_self _) start_ok
  have hdom : NDom r c b pl := ⟨⟨⟨by omega, by omega⟩, by omega, by omega⟩, ⟨by rw [hb]; push_cast; rfl, by omega⟩, hpl⟩
  refine ⟨sumN (List.replicate (r * c) 1000) + 1, outN r c pl fin (r * c), ?_, ?_⟩
  · intro k hk
    refine at_rounds (fun k => impl_need.mono _ _ _ _ k) hk ?_
    unfold impl_need.f
    rw [if_pos hdom, hb, h1]
    show some (outN r c pl fin fin.length) = _
    rw [h2.len]
  · obtain ⟨⟨a1, a2⟩, a3⟩ := out_tells (r := r) (c := c) (pl := pl) fin (r * c)
    have hle : ∀ cc, Cost r c b pl cc → outN r c pl fin (r * c) ≤ cc := by
      rintro cc ⟨i, hl, hP⟩
      have hi := hP.okEnd.1
      have := a2 i hi hl
      have := fixed_le hr hc hn h3 hP
      omega
    have hno : outN r c pl fin (r * c) = 1000 → ∀ cc, ¬ Cost r c b pl cc := by
      intro h cc hcc
      obtain ⟨c', hc', _, h4⟩ := hcc.bound
      have := hle c' hc'
      omega
    rcases a3 with h | ⟨i, hi, hl, h⟩
    · exact .inl ⟨h, hno h⟩
    · rcases h2.tru i hi with h4 | ⟨cc, hP, h4, h5⟩
      · exact .inl ⟨by omega, hno (by omega)⟩
      · right
        have hC : Cost r c b pl cc := ⟨i, hl, hP⟩
        have hmin : ∀ c', Cost r c b pl c' → cc ≤ c' := by
          intro c' hc'
          have := hle c' hc'
          omega
        obtain ⟨c', hc', _, h6⟩ := hC.bound
        have := hmin c' hc'
        exact ⟨cc, by omega, by omega, hC, hmin⟩
end
end Go.Proofs.Ytenaefpbjblmbaa.Pq

namespace Go.Proofs.Ytenaefpbjblmbaa.Pr
open Go.RowKit Go.Proofs.Ytenaefpbjblmbaa.Q Go.Proofs.Ytenaefpbjblmbaa.Given Go.Proofs.Ytenaefpbjblmbaa.Hg Go.Proofs.Ytenaefpbjblmbaa.Pa Go.Proofs.Ytenaefpbjblmbaa.Pq Go.Proofs.YtenaefpbjblmbaaW.PrintWords Go.Proofs.YtenaefpbjblmbaaW.PrintLast
set_option linter.unusedVariables false
set_option linter.unusedSimpArgs false

theorem ev_s {α : Type} {g f : Nat → Option α} {v : α} (K0 : Nat) (h : ∀ k, K0 ≤ k → g (k + 1) = f k) (hf : ∃ K, ∀ k, K ≤ k → f k = some v) : ∃ K, ∀ k, K ≤ k → g k = some v := by
  obtain ⟨K, hK⟩ := hf
  refine ⟨K + K0 + 1, fun k hk => ?_⟩
  obtain ⟨m, rfl⟩ : ∃ m, k = m + 1 := ⟨k - 1, by omega⟩
  rw [h m (by omega)]
  exact hK m (by omega)
theorem wr {x : Int} (h0 : -1000000 ≤ x) (h1 : x ≤ 1000000) : wrap64 x = x := by unfold wrap64; omega

section
variable {r c : Nat} {b : List Int} {pl : Int}
/-- What is told first. -/
def initB (c : Nat) (b : List Int) (pl : Int) (i : Nat) : Bool := !(decide (rd b i = 3 - pl)) && firstN c pl i
def initS (r c : Nat) (b : List Int) (pl : Int) (i : Nat) : Int := if initB c b pl i then (if rd b i = 0 then 1 else 0) else ((r * c : Nat) : Int) + 1

theorem rd_setN (l : List Int) (i j : Nat) (v : Int) (hl : i < l.length) : rd (l.set i v) (j : Nat) = if i = j then v else rd l (j : Nat) := by
  have := rd_set l (i : Int) (j : Int) v (by omega) (by exact_mod_cast hl)
  simpa using this

/-! the rounds -/
def pJ (b : List Int) (pl : Int) (i : Nat) (l : List Int) (j : Int) : List Int := if rd b j = 3 - pl then l else l.set j.toNat (min (rd l j) (rd l i + (if rd b j = 0 then 1 else 0)))
def pI (r c : Nat) (b : List Int) (pl : Int) (l : List Int) (i : Nat) : List Int := (hexL r c i 6).foldl (pJ b pl i) l
def pR (r c : Nat) (b : List Int) (pl : Int) : Nat → List Int → List Int
  | 0, l => l
  | m + 1, l => pR r c b pl m (pI r c b pl l (r * c - (m + 1)))
def pN (r c : Nat) (b : List Int) (pl : Int) : Nat → List Int → List Int
  | 0, l => l
  | m + 1, l => pN r c b pl m (pR r c b pl (r * c) l)

/-- What is told so far. -/
structure OkS (r c : Nat) (b : List Int) (pl : Int) (l : List Int) : Prop where
  tru : Tru r c b pl (r * c + 1) l
  bd : ∀ j, 0 ≤ rd l j ∧ rd l j ≤ ((r * c : Nat) : Int) + 1
  len : l.length = r * c
def Le (l' l : List Int) : Prop := ∀ j : Nat, rd l' j ≤ rd l j
theorem Le.refl (l : List Int) : Le l l := fun _ => Int.le_refl _
theorem Le.trans {a b c : List Int} (h : Le a b) (k : Le b c) : Le a c := fun j => Int.le_trans (h j) (k j)

theorem pJ_ok (hpl : pl = 1 ∨ pl = 2) (hval : ∀ j, 0 ≤ rd b j ∧ rd b j ≤ 2) (hr : 1 ≤ r) (hc : 1 ≤ c) (hn : r * c ≤ 30) {l : List Int} (h : OkS r c b pl l) {i j : Nat} (hi : i < r * c) (hj : j < r * c) (ha : adjI c i j) :
    OkS r c b pl (pJ b pl i l j) ∧ Le (pJ b pl i l j) l ∧ (okG r c b pl j → rd (pJ b pl i l j) j ≤ rd l i + (coG b pl j : Nat)) := by
  have hv := hval j
  unfold pJ
  by_cases h1 : rd b j = 3 - pl
  · rw [if_pos h1]
    refine ⟨h, Le.refl _, fun ho => ?_⟩
    exfalso
    rcases ho.2 with h2 | h2 <;> omega
  · rw [if_neg h1]
    have hok : okG r c b pl j := ⟨hj, by omega⟩
    have hco : (if rd b j = 0 then (1 : Int) else 0) = (coG b pl j : Nat) := by
      unfold coG
      by_cases h2 : rd b j = 0
      · rw [if_pos h2, if_neg (by omega)]; rfl
      · rw [if_neg h2, if_pos (by omega)]; rfl
    rw [hco]
    have hjl : j < l.length := by rw [h.len]; exact hj
    have hset : ∀ x : Nat, rd (l.set (j : Int).toNat (min (rd l j) (rd l i + (coG b pl j : Nat)))) x = if j = x then min (rd l j) (rd l i + (coG b pl j : Nat)) else rd l x := by
      intro x
      rw [Int.toNat_natCast]
      exact rd_setN l j x _ hjl
    have hbi := h.bd i
    have hbj := h.bd j
    refine ⟨⟨fun x hx => ?_, fun x => ?_, by simp [h.len]⟩, fun x => ?_, fun _ => ?_⟩
    · rw [hset]
      split
      · rename_i e
        subst e
        by_cases hm : rd l j ≤ rd l i + (coG b pl j : Nat)
        · rw [show min (rd l j) (rd l i + (coG b pl j : Nat)) = rd l j by omega]
          exact h.tru j hj
        · rw [show min (rd l j) (rd l i + (coG b pl j : Nat)) = rd l i + (coG b pl j : Nat) by omega]
          rcases h.tru i hi with h2 | ⟨cc, hP, h2, h3⟩
          · omega
          · right
            exact ⟨cc + coG b pl j, .step hP ⟨⟨hi, hj⟩, ha⟩ hok, by omega, by omega⟩
      · exact h.tru x hx
    · rw [Int.toNat_natCast]
      have := rd_set l (j : Int) x (min (rd l j) (rd l i + (coG b pl j : Nat))) (by omega) (by exact_mod_cast hjl)
      rw [Int.toNat_natCast] at this
      rw [this]
      split
      · omega
      · exact h.bd x
    · rw [hset]
      split
      · rename_i e; subst e; omega
      · omega
    · rw [hset, if_pos rfl]; omega

theorem fold_ok (hpl : pl = 1 ∨ pl = 2) (hval : ∀ j, 0 ≤ rd b j ∧ rd b j ≤ 2) (hr : 1 ≤ r) (hc : 1 ≤ c) (hn : r * c ≤ 30) {i : Nat} (hi : i < r * c) : ∀ (js : List Int) (l : List Int), (∀ j, j ∈ js → j ∈ hexL r c i 6) → OkS r c b pl l →
    OkS r c b pl (js.foldl (pJ b pl i) l) ∧ Le (js.foldl (pJ b pl i) l) l ∧ (∀ j : Nat, (j : Int) ∈ js → okG r c b pl j → rd (js.foldl (pJ b pl i) l) j ≤ rd l i + (coG b pl j : Nat)) := by
  intro js
  induction js with
  | nil => intro l _ h; exact ⟨h, Le.refl _, fun j hj => by cases hj⟩
  | cons y js ih =>
    intro l hm h
    have hy := hm y (by simp)
    have hyb := hexL_mem (show (1 : Int) ≤ (c : Int) by omega) 6 y hy
    obtain ⟨y, rfl⟩ := Int.eq_ofNat_of_zero_le hyb.1
    have hyn : y < r * c := by have := hyb.2; exact_mod_cast this
    have hadj := (near_iff hr hc hn hi hyn).mp hy
    obtain ⟨a1, a2, a3⟩ := pJ_ok hpl hval hr hc hn h hi hyn hadj
    obtain ⟨b1, b2, b3⟩ := ih (pJ b pl i l y) (fun j hj => hm j (List.mem_cons_of_mem _ hj)) a1
    refine ⟨b1, b2.trans a2, fun j hj ho => ?_⟩
    show rd (js.foldl (pJ b pl i) (pJ b pl i l y)) j ≤ _
    rcases List.mem_cons.mp hj with e | hj
    · have e' : j = y := by exact_mod_cast e
      subst e'
      exact Int.le_trans (b2 j) (a3 ho)
    · have := b3 j hj ho
      have := a2 i
      omega

theorem pR_ok (hpl : pl = 1 ∨ pl = 2) (hval : ∀ j, 0 ≤ rd b j ∧ rd b j ≤ 2) (hr : 1 ≤ r) (hc : 1 ≤ c) (hn : r * c ≤ 30) : ∀ (m : Nat) (l : List Int), m ≤ r * c → OkS r c b pl l →
    OkS r c b pl (pR r c b pl m l) ∧ Le (pR r c b pl m l) l ∧ (∀ i j : Nat, r * c - m ≤ i → i < r * c → okG r c b pl j → nbG r c i j → rd (pR r c b pl m l) j ≤ rd l i + (coG b pl j : Nat)) := by
  intro m
  induction m with
  | zero => intro l _ h; exact ⟨h, Le.refl _, fun i j h1 h2 => by omega⟩
  | succ m ih =>
    intro l hm h
    have hi : r * c - (m + 1) < r * c := by omega
    obtain ⟨a1, a2, a3⟩ := fold_ok hpl hval hr hc hn hi (hexL r c (r * c - (m + 1) : Nat) 6) l (fun j hj => hj) h
    obtain ⟨b1, b2, b3⟩ := ih _ (by omega) a1
    unfold pR
    refine ⟨b1, b2.trans a2, fun i j h1 h2 ho hnb => ?_⟩
    by_cases e : i = r * c - (m + 1)
    · subst e
      exact Int.le_trans (b2 j) (a3 j ((near_iff hr hc hn hnb.1.1 hnb.1.2).mpr hnb.2) ho)
    · have e1 := b3 i j (by omega) h2 ho hnb
      have e2 := a2 i
      exact Int.le_trans e1 (by omega)

theorem pN_ok (hpl : pl = 1 ∨ pl = 2) (hval : ∀ j, 0 ≤ rd b j ∧ rd b j ≤ 2) (hr : 1 ≤ r) (hc : 1 ≤ c) (hn : r * c ≤ 30) : ∀ (m q : Nat) (l : List Int), OkS r c b pl l →
    (∀ p cc, PL (nbG r c) (stG c pl) (okG r c b pl) (coG b pl) p cc → p.length ≤ q + 1 → ∀ i t, p = i :: t → rd l (i : Nat) ≤ (cc : Int)) →
    OkS r c b pl (pN r c b pl m l) ∧ (∀ p cc, PL (nbG r c) (stG c pl) (okG r c b pl) (coG b pl) p cc → p.length ≤ q + m + 1 → ∀ i t, p = i :: t → rd (pN r c b pl m l) (i : Nat) ≤ (cc : Int)) := by
  intro m
  induction m with
  | zero => intro q l h hp; exact ⟨h, hp⟩
  | succ m ih =>
    intro q l h hp
    obtain ⟨a1, a2, a3⟩ := pR_ok hpl hval hr hc hn (r * c) l (Nat.le_refl _) h
    unfold pN
    have hstep : ∀ p cc, PL (nbG r c) (stG c pl) (okG r c b pl) (coG b pl) p cc → p.length ≤ q + 1 + 1 → ∀ i t, p = i :: t → rd (pR r c b pl (r * c) l) (i : Nat) ≤ (cc : Int) := by
      intro p cc hPL hlen i t hpe
      cases hPL with
      | @one i0 h1 h2 =>
        cases hpe
        exact Int.le_trans (a2 i) (hp _ _ (.one h1 h2) (by simp) _ _ rfl)
      | @cons i0 j l0 cc0 h0 h1 h2 =>
        cases hpe
        have e1 := hp _ _ h0 (by simp at hlen ⊢; omega) _ _ rfl
        have e2 := a3 j i (by omega) h1.1.1 h2 h1
        omega
    obtain ⟨b1, b2⟩ := ih (q + 1) _ a1 hstep
    exact ⟨b1, fun p cc h1 h2 => b2 p cc h1 (by omega)⟩

end
end Go.Proofs.Ytenaefpbjblmbaa.Pr

namespace Go.Proofs.Ytenaefpbjblmbaa.Pt
open Go.RowKit Go.Proofs.Ytenaefpbjblmbaa.Q Go.Proofs.Ytenaefpbjblmbaa.Given Go.Proofs.Ytenaefpbjblmbaa.Hg Go.Proofs.Ytenaefpbjblmbaa.Pa Go.Proofs.Ytenaefpbjblmbaa.Pq Go.Proofs.Ytenaefpbjblmbaa.Pr Go.Proofs.YtenaefpbjblmbaaW.PrintWords Go.Proofs.YtenaefpbjblmbaaW.PrintLast
set_option linter.unusedVariables false
set_option linter.unusedSimpArgs false
section
variable {r c : Nat} {b : List Int} {pl : Int}
set_option maxHeartbeats 2000000 in
theorem l0_step (hc : 1 ≤ c) (hn : r * c ≤ 30) (hb : b.length = r * c) (hpl : pl = 1 ∨ pl = 2) (x : List Int) (hx : x.length = r * c) (i : Nat) (hi : i < r * c) (k : Nat) :
    spec_hxNeed.l0 (k + 1) r c b pl ((r * c : Nat) : Int) x ((r * c : Nat) : Int) (i : Int) = spec_hxNeed.j1 k r c b pl ((r * c : Nat) : Int) (x.set i (((r * c : Nat) : Int) + 1)) (i : Int) ((r * c : Nat) : Int) (i : Int) (initB c b pl i) := by
  have hi' : (i : Int) < ((r * c : Nat) : Int) := by exact_mod_cast hi
  have hw : wrap64 (((r * c : Nat) : Int) + 1) = ((r * c : Nat) : Int) + 1 := wr (by omega) (by omega)
  rw [spec_hxNeed.l0, if_pos hi', if_pos (by omega), if_pos (by rw [hx]; exact hi'), hw]
  simp only [Option.bind_some, Int.toNat_natCast]
  rw [if_pos (by rw [hb]; exact hi')]
  have hm : Int.tmod (i : Int) (c : Int) = (i : Int) % (c : Int) := by rw [Int.tmod_eq_emod_of_nonneg (by omega)]
  have hc0 : ¬ (c : Int) = 0 := by omega
  rcases hpl with rfl | rfl
  · have hw3 : wrap64 (3 - 1) = 2 := by unfold wrap64; omega
    rw [hw3]
    unfold initB firstN
    by_cases h1 : rd b i = 2
    · rw [if_pos h1]; simp [h1]
    · rw [if_neg h1, if_pos rfl]
      by_cases h2 : (i : Int) < (c : Int)
      · rw [if_pos h2]; simp [h1, h2]
      · rw [if_neg h2, if_neg (by decide)]; simp [h1, h2]
  · have hw3 : wrap64 (3 - 2) = 1 := by unfold wrap64; omega
    rw [hw3]
    unfold initB firstN
    by_cases h1 : rd b i = 1
    · rw [if_pos h1]; simp [h1]
    · rw [if_neg h1, if_neg (by decide), if_pos rfl, if_neg hc0, hm]
      simp [h1]

set_option maxHeartbeats 2000000 in
theorem l0_all (hc : 1 ≤ c) (hn : r * c ≤ 30) (hb : b.length = r * c) (hpl : pl = 1 ∨ pl = 2) {v : Int} (d : Nat) : ∀ (i : Nat) (x : List Int), i + d = r * c → x.length = r * c → (∀ j : Nat, j < i → rd x j = initS r c b pl j) →
    (∀ fin : List Int, fin.length = r * c → (∀ j : Nat, j < r * c → rd fin j = initS r c b pl j) → ∃ K, ∀ k, K ≤ k → spec_hxNeed.l1 k r c b pl ((r * c : Nat) : Int) fin 0 = some v) →
    ∃ K, ∀ k, K ≤ k → spec_hxNeed.l0 k r c b pl ((r * c : Nat) : Int) x ((r * c : Nat) : Int) (i : Int) = some v := by
  induction d with
  | zero =>
    intro i x hi hx hj hfin
    obtain rfl : i = r * c := by omega
    refine ev_s 0 (fun k _ => ?_) (hfin x hx hj)
    rw [spec_hxNeed.l0, if_neg (by omega)]
  | succ d ih =>
    intro i x hi hx hj hfin
    have hir : i < r * c := by omega
    have hi' : (i : Int) < ((r * c : Nat) : Int) := by exact_mod_cast hir
    refine ev_s 0 (fun k _ => l0_step hc hn hb hpl x hx i hir k) ?_
    have hwi : wrap64 ((i : Int) + 1) = ((i + 1 : Nat) : Int) := by rw [wr (by omega) (by omega)]; omega
    cases hB : initB c b pl i with
    | false =>
      refine ev_s 0 (fun k _ => ?_) (ih (i + 1) (x.set i (((r * c : Nat) : Int) + 1)) (by omega) (by simp [hx]) ?_ hfin)
      · rw [spec_hxNeed.j1, if_neg (by simp), hwi]
      · intro j hj2
        rw [rd_setN _ _ _ _ (by omega)]
        split
        · rename_i e; subst e; unfold initS; rw [hB]; simp
        · exact hj j (by omega)
    | true =>
      by_cases h0 : rd b i = 0
      · refine ev_s 0 (fun k _ => ?_) (ih (i + 1) (((x.set i (((r * c : Nat) : Int) + 1)).set i 0).set i 1) (by omega) (by simp [hx]) ?_ hfin)
        · rw [spec_hxNeed.j1, if_pos rfl, if_pos (by omega), if_pos (by simp [hx]; omega)]
          simp only [Option.bind_some, Int.toNat_natCast]
          rw [if_pos (by rw [hb]; exact hi'), if_pos h0, hwi]
        · intro j hj2
          rw [rd_setN _ _ _ _ (by simp; omega), rd_setN _ _ _ _ (by simp; omega), rd_setN _ _ _ _ (by omega)]
          split
          · rename_i e; subst e; unfold initS; rw [hB, if_pos rfl, if_pos h0]
          · exact hj j (by omega)
      · refine ev_s 0 (fun k _ => ?_) (ih (i + 1) ((x.set i (((r * c : Nat) : Int) + 1)).set i 0) (by omega) (by simp [hx]) ?_ hfin)
        · rw [spec_hxNeed.j1, if_pos rfl, if_pos (by omega), if_pos (by simp [hx]; omega)]
          simp only [Option.bind_some, Int.toNat_natCast]
          rw [if_pos (by rw [hb]; exact hi'), if_neg h0, hwi]
        · intro j hj2
          rw [rd_setN _ _ _ _ (by simp; omega), rd_setN _ _ _ _ (by omega)]
          split
          · rename_i e; subst e; unfold initS; rw [hB, if_pos rfl, if_neg h0]
          · exact hj j (by omega)

/-! the printed loops -/
set_option maxHeartbeats 2000000 in
theorem l3_all (hpl : pl = 1 ∨ pl = 2) (hr : 1 ≤ r) (hc : 1 ≤ c) (hn : r * c ≤ 30) (hb : b.length = r * c) (hval : ∀ j, 0 ≤ rd b j ∧ rd b j ≤ 2) {v : Int} (x12 : Int) {i : Nat} (hi : i < r * c) (js : List Int) (hjs : ∀ j, j ∈ js → j ∈ hexL r c i 6) (hjl : js.length ≤ 6) (d : Nat) : ∀ (q : Nat) (l : List Int), q + d = js.length → OkS r c b pl l →
    (∃ K, ∀ k, K ≤ k → spec_hxNeed.l2 k r c b pl ((r * c : Nat) : Int) ((js.drop q).foldl (pJ b pl i) l) x12 ((r * c : Nat) : Int) ((i + 1 : Nat) : Int) = some v) →
    ∃ K, ∀ k, K ≤ k → spec_hxNeed.l3 k r c b pl ((r * c : Nat) : Int) l x12 i ((r * c : Nat) : Int) i js (js.length : Int) (q : Int) = some v := by
  induction d with
  | zero =>
    intro q l hq h hv
    obtain rfl : q = js.length := by omega
    rw [List.drop_length] at hv
    refine ev_s 0 (fun k _ => ?_) hv
    rw [spec_hxNeed.l3, if_neg (by omega), wr (by omega) (by omega)]
    rfl
  | succ d ih =>
    intro q l hq h hv
    have hql : q < js.length := by omega
    have hrd : rd js (q : Int) = js[q] := by unfold rd; rw [Int.toNat_natCast, List.getD_eq_getElem?_getD, List.getElem?_eq_getElem hql]; rfl
    have hy := hjs _ (List.getElem_mem hql)
    rw [← hrd] at hy
    rw [List.drop_eq_getElem_cons hql, List.foldl_cons, ← hrd] at hv
    have hyb := hexL_mem (show (1 : Int) ≤ (c : Int) by omega) 6 _ hy
    have hok := (fold_ok hpl hval hr hc hn hi [rd js (q : Int)] l (fun j hj => by rw [List.mem_singleton.mp hj]; exact hy) h).1
    obtain ⟨y, hy'⟩ := Int.eq_ofNat_of_zero_le hyb.1
    rw [hy'] at hy hv hok hyb
    have hyn : y < r * c := by have := hyb.2; exact_mod_cast this
    have hyi : (y : Int) < ((r * c : Nat) : Int) := by exact_mod_cast hyn
    have hii : (i : Int) < ((r * c : Nat) : Int) := by exact_mod_cast hi
    have hwq : wrap64 ((q : Int) + 1) = ((q + 1 : Nat) : Int) := by rw [wr (by omega) (by omega)]; omega
    have hw3 : wrap64 (3 - pl) = 3 - pl := wr (by omega) (by omega)
    have hbi := h.bd i
    refine ev_s 0 (fun k _ => ?_) (ih (q + 1) (pJ b pl i l y) (by omega) hok hv)
    have q1 : (q : Int) < (js.length : Int) := by exact_mod_cast hql
    have q0 : (0 : Int) ≤ (q : Int) := Int.natCast_nonneg q
    have y0 : (0 : Int) ≤ (y : Int) := Int.natCast_nonneg y
    have i0 : (0 : Int) ≤ (i : Int) := Int.natCast_nonneg i
    have hyb1 : (y : Int) < (b.length : Int) := by rw [hb]; exact hyi
    have hyl1 : (y : Int) < (l.length : Int) := by rw [h.len]; exact hyi
    have hil1 : (i : Int) < (l.length : Int) := by rw [h.len]; exact hii
    have hwd : wrap64 (rd l (i : Int) + 1) = rd l (i : Int) + 1 := wr (by omega) (by omega)
    clear hy hyb hok hv hjs ih
    rw [spec_hxNeed.l3, if_pos q1, if_pos q0, if_pos q1, hy', if_pos y0, if_pos hyb1, hw3, hwq]
    unfold pJ
    by_cases h1 : rd b y = 3 - pl
    · rw [if_pos h1, if_pos h1]
    · rw [if_neg h1, if_neg h1, if_pos i0, if_pos hil1]
      have hmin : ∀ x z : Int, spec_l1Least.f x z = some (min x z) := by
        intro x z
        unfold spec_l1Least.f
        split <;> (congr 1; omega)
      by_cases h0 : rd b y = 0
      · rw [if_pos h0, if_pos hyl1, hwd, hmin, if_pos h0]
        rfl
      · rw [if_neg h0, if_pos hyl1, hmin, if_neg h0, Int.add_zero]
        rfl

set_option maxHeartbeats 2000000 in
theorem l2_all (hpl : pl = 1 ∨ pl = 2) (hr : 1 ≤ r) (hc : 1 ≤ c) (hn : r * c ≤ 30) (hb : b.length = r * c) (hval : ∀ j, 0 ≤ rd b j ∧ rd b j ≤ 2) {v : Int} (x12 : Int) (hx : 0 ≤ x12 ∧ x12 ≤ 100) (d : Nat) : ∀ (i : Nat) (l : List Int), i + d = r * c → OkS r c b pl l →
    (∃ K, ∀ k, K ≤ k → spec_hxNeed.l1 k r c b pl ((r * c : Nat) : Int) (pR r c b pl d l) (x12 + 1) = some v) →
    ∃ K, ∀ k, K ≤ k → spec_hxNeed.l2 k r c b pl ((r * c : Nat) : Int) l x12 ((r * c : Nat) : Int) (i : Int) = some v := by
  induction d with
  | zero =>
    intro i l hi h hv
    obtain rfl : i = r * c := by omega
    refine ev_s 0 (fun k _ => ?_) hv
    rw [spec_hxNeed.l2, if_neg (by omega), wr (by omega) (by omega)]
    rfl
  | succ d ih =>
    intro i l hi h hv
    have hir : i < r * c := by omega
    have hl6 := hexL_len r c i 6
    have hok := (fold_ok hpl hval hr hc hn hir (hexL r c i 6) l (fun j hj => hj) h).1
    have hie : r * c - (d + 1) = i := by omega
    unfold pR pI at hv
    rw [hie] at hv
    have h2 := ih (i + 1) _ (by omega) hok hv
    have h3 := l3_all hpl hr hc hn hb hval x12 hir (hexL r c i 6) (fun j hj => hj) hl6 (hexL r c i 6).length 0 l (by omega) h (by rw [List.drop_zero]; exact h2)
    refine ev_s 12 (fun k hk => ?_) h3
    rw [spec_hxNeed.l2, if_pos (by omega), around hr hc hn hir k hk]
    rfl

/-- The least of what is told of the last line. -/
def outS (r c : Nat) (pl : Int) (l : List Int) : Nat → Int
  | 0 => ((r * c : Nat) : Int) + 1
  | i + 1 => if lastN r c pl i then min (outS r c pl l i) (rd l i) else outS r c pl l i
theorem outS_tells (l : List Int) (n : Nat) : (outS r c pl l n ≤ ((r * c : Nat) : Int) + 1 ∧ ∀ i : Nat, i < n → lastN r c pl i = true → outS r c pl l n ≤ rd l i) ∧ (outS r c pl l n = ((r * c : Nat) : Int) + 1 ∨ ∃ i : Nat, i < n ∧ lastN r c pl i = true ∧ outS r c pl l n = rd l i) := by
  induction n with
  | zero => exact ⟨⟨by unfold outS; omega, fun i hi => by omega⟩, .inl rfl⟩
  | succ n ih =>
    obtain ⟨⟨h1, h2⟩, h3⟩ := ih
    unfold outS
    by_cases hl : lastN r c pl n = true
    · rw [if_pos hl]
      refine ⟨⟨by omega, fun i hi hli => ?_⟩, ?_⟩
      · by_cases e : i = n
        · subst e; omega
        · have := h2 i (by omega) hli; omega
      · by_cases hle : outS r c pl l n ≤ rd l n
        · rcases h3 with h | ⟨i, a, b', c'⟩
          · left; omega
          · right; exact ⟨i, by omega, b', by omega⟩
        · right; exact ⟨n, by omega, hl, by omega⟩
    · rw [if_neg hl]
      refine ⟨⟨h1, fun i hi hli => ?_⟩, ?_⟩
      · by_cases e : i = n
        · subst e; exact absurd hli hl
        · exact h2 i (by omega) hli
      · rcases h3 with h | ⟨i, a, b', c'⟩
        · exact .inl h
        · exact .inr ⟨i, by omega, b', c'⟩

set_option maxHeartbeats 2000000 in
theorem l4_all (hpl : pl = 1 ∨ pl = 2) (hr : 1 ≤ r) (hc : 1 ≤ c) (hn : r * c ≤ 30) (l : List Int) (hl : l.length = r * c) (hbd : ∀ j, 0 ≤ rd l j ∧ rd l j ≤ ((r * c : Nat) : Int) + 1) (d : Nat) : ∀ (i : Nat), i + d = r * c →
    ∃ K, ∀ k, K ≤ k → spec_hxNeed.l4 k c pl ((r * c : Nat) : Int) (outS r c pl l i) l ((r * c : Nat) : Int) (i : Int) = some (outS r c pl l (r * c)) := by
  induction d with
  | zero =>
    intro i hi
    obtain rfl : i = r * c := by omega
    refine ⟨1, fun k hk => ?_⟩
    obtain ⟨m, rfl⟩ : ∃ m, k = m + 1 := ⟨k - 1, by omega⟩
    rw [spec_hxNeed.l4, if_neg (by omega)]
  | succ d ih =>
    intro i hi
    have hir : i < r * c := by omega
    have hii : (i : Int) < ((r * c : Nat) : Int) := by exact_mod_cast hir
    have hwi : wrap64 ((i : Int) + 1) = ((i + 1 : Nat) : Int) := by rw [wr (by omega) (by omega)]; omega
    have hc2 : c ≤ r * c := Nat.le_mul_of_pos_left c hr
    have hw1 : wrap64 (((r * c : Nat) : Int) - (c : Int)) = ((r * c : Nat) : Int) - (c : Int) := wr (by omega) (by omega)
    have hw2 : wrap64 ((c : Int) - 1) = (c : Int) - 1 := wr (by omega) (by omega)
    have hm : Int.tmod (i : Int) (c : Int) = (i : Int) % (c : Int) := by rw [Int.tmod_eq_emod_of_nonneg (by omega)]
    have hc0 : ¬ (c : Int) = 0 := by omega
    have hmin : ∀ x z : Int, spec_l1Least.f x z = some (min x z) := by
      intro x z
      unfold spec_l1Least.f
      split <;> (congr 1; omega)
    have hprod : (c : Int) * ((r : Int) - 1) = ((r * c : Nat) : Int) - (c : Int) := by
      rw [Int.mul_sub, Int.mul_one, Int.natCast_mul, Int.mul_comm]
    refine ev_s 0 (fun k _ => ?_) (ih (i + 1) (by omega))
    rw [spec_hxNeed.l4, if_pos hii, if_pos (by omega), if_pos (by rw [hl]; exact hii), hw1, hw2, hwi, hm, hmin]
    have hO : outS r c pl l (i + 1) = if lastN r c pl i then min (outS r c pl l i) (rd l i) else outS r c pl l i := rfl
    rw [hO]
    rcases hpl with rfl | rfl
    · have hL : lastN r c 1 i = decide (((r * c : Nat) : Int) - (c : Int) ≤ (i : Int)) := by
        unfold lastN
        rw [hprod]
        generalize decide (((r * c : Nat) : Int) - (c : Int) ≤ (i : Int)) = D
        generalize ((i : Int) % (c : Int) == (c : Int) - 1) = E
        cases D <;> rfl
      rw [hL]
      by_cases h1 : ((r * c : Nat) : Int) - (c : Int) ≤ (i : Int)
      · rw [if_pos rfl, if_pos h1, if_pos (decide_eq_true h1)]; rfl
      · rw [if_pos rfl, if_neg h1, if_neg (by decide), if_neg (by rw [decide_eq_false h1]; simp)]
    · have hL : lastN r c 2 i = ((i : Int) % (c : Int) == (c : Int) - 1) := by
        unfold lastN
        generalize ((i : Int) % (c : Int) == (c : Int) - 1) = E
        rfl
      rw [hL, if_neg (by decide), if_pos rfl, if_neg hc0]
      by_cases h1 : (i : Int) % (c : Int) = (c : Int) - 1
      · rw [if_pos h1, if_pos (beq_iff_eq.mpr h1)]; rfl
      · rw [if_neg h1, if_neg (by rw [beq_eq_false_iff_ne.mpr h1]; simp)]

set_option maxHeartbeats 2000000 in
theorem l1_all (hpl : pl = 1 ∨ pl = 2) (hr : 1 ≤ r) (hc : 1 ≤ c) (hn : r * c ≤ 30) (hb : b.length = r * c) (hval : ∀ j, 0 ≤ rd b j ∧ rd b j ≤ 2) (d : Nat) : ∀ (q : Nat) (l : List Int), q + d = r * c → OkS r c b pl l →
    ∃ K, ∀ k, K ≤ k → spec_hxNeed.l1 k r c b pl ((r * c : Nat) : Int) l (q : Int) = some (outS r c pl (pN r c b pl d l) (r * c)) := by
  induction d with
  | zero =>
    intro q l hq h
    obtain rfl : q = r * c := by omega
    refine ev_s 0 (fun k _ => ?_) (l4_all hpl hr hc hn l h.len h.bd (r * c) 0 (by omega))
    rw [spec_hxNeed.l1, if_neg (by omega), wr (by omega) (by omega), h.len]
    rfl
  | succ d ih =>
    intro q l hq h
    obtain ⟨a1, _, _⟩ := pR_ok hpl hval hr hc hn (r * c) l (Nat.le_refl _) h
    have h1 := ih (q + 1) _ (by omega) a1
    have h2 := l2_all hpl hr hc hn hb hval (q : Int) (by omega) (r * c) 0 l (by omega) h (by
      rw [show ((q : Int) + 1) = ((q + 1 : Nat) : Int) by omega]; exact h1)
    refine ev_s 0 (fun k _ => ?_) h2
    rw [spec_hxNeed.l1, if_pos (by omega), h.len]
    rfl

theorem init_ok (hpl : pl = 1 ∨ pl = 2) (hn : r * c ≤ 30) (hval : ∀ j, 0 ≤ rd b j ∧ rd b j ≤ 2) {l : List Int} (hl : l.length = r * c) (hi : ∀ j : Nat, j < r * c → rd l j = initS r c b pl j) :
    OkS r c b pl l ∧ (∀ p cc, PL (nbG r c) (stG c pl) (okG r c b pl) (coG b pl) p cc → p.length ≤ 0 + 1 → ∀ i t, p = i :: t → rd l (i : Nat) ≤ (cc : Int)) := by
  have hB : ∀ i : Nat, i < r * c → initB c b pl i = true → okG r c b pl i ∧ stG c pl i ∧ initS r c b pl i = (coG b pl i : Nat) := by
    intro i hi h
    have hv := hval i
    unfold initS
    rw [if_pos h]
    unfold initB at h
    simp only [Bool.and_eq_true, Bool.not_eq_true', decide_eq_false_iff_not] at h
    refine ⟨⟨hi, by omega⟩, h.2, ?_⟩
    unfold coG
    by_cases h2 : rd b i = 0
    · rw [if_pos h2, if_neg (by omega)]; rfl
    · rw [if_neg h2, if_pos (by omega)]; rfl
  refine ⟨⟨fun i hin => ?_, fun j => ?_, hl⟩, ?_⟩
  · rw [hi i hin]
    cases hb : initB c b pl i with
    | true =>
      obtain ⟨h1, h2, h3⟩ := hB i hin hb
      right
      have := coG_le b pl i
      exact ⟨_, .start h2 h1, h3, by omega⟩
    | false => left; unfold initS; rw [hb]; simp
  · by_cases hj : 0 ≤ j ∧ j < ((r * c : Nat) : Int)
    · obtain ⟨y, rfl⟩ := Int.eq_ofNat_of_zero_le hj.1
      rw [hi y (by omega)]
      unfold initS
      split
      · split <;> omega
      · omega
    · by_cases hneg : j < 0
      · have e : rd l j = rd l ((0 : Nat) : Int) := by unfold rd; rw [show j.toNat = 0 by omega]; rfl
        by_cases h0 : 0 < r * c
        · rw [e, hi 0 h0]
          unfold initS
          split
          · split <;> omega
          · omega
        · rw [e]
          have : l = [] := List.length_eq_zero_iff.mp (by omega)
          subst this
          simp [rd]; omega
      · have : rd l j = 0 := by
          unfold rd
          rw [List.getD_eq_getElem?_getD, List.getElem?_eq_none (by omega)]; rfl
        omega
  · intro p cc hPL hlen i t hpe
    cases hPL with
    | @one i0 h1 h2 =>
      cases hpe
      have hv := hval i
      have hib : initB c b pl i = true := by
        unfold initB
        simp only [Bool.and_eq_true, Bool.not_eq_true', decide_eq_false_iff_not]
        refine ⟨?_, h1⟩
        have := h2.2
        omega
      rw [hi i h2.1, (hB i h2.1 hib).2.2]
      exact Int.le_refl _
    | @cons i0 j l0 cc0 h0 h1 h2 => simp at hlen

/-- What hxNeed tells: the least cost, or more than there are places if there is none. -/
theorem hxNeed_tells (hr : 1 ≤ r) (hc : 1 ≤ c) (hn : r * c ≤ 30) (hb : b.length = r * c) (hval : ∀ j, 0 ≤ rd b j ∧ rd b j ≤ 2) (hpl : pl = 1 ∨ pl = 2) :
    ∃ (K : Nat) (v : Int), (∀ k, K ≤ k → spec_hxNeed.f k r c b pl = some v) ∧ ((v = ((r * c : Nat) : Int) + 1 ∧ ∀ cc, ¬ Cost r c b pl cc) ∨ (∃ cc : Nat, v = cc ∧ cc ≤ r * c ∧ Cost r c b pl cc ∧ ∀ c', Cost r c b pl c' → cc ≤ c')) := by
  have hw : wrap64 ((r : Int) * (c : Int)) = ((r * c : Nat) : Int) := by
    rw [← Int.natCast_mul]; exact wr (by omega) (by omega)
  have main : ∃ fin : List Int, OkS r c b pl fin ∧ (∀ p cc, PL (nbG r c) (stG c pl) (okG r c b pl) (coG b pl) p cc → p.length ≤ 0 + r * c + 1 → ∀ i t, p = i :: t → rd fin (i : Nat) ≤ (cc : Int)) ∧
      ∃ K, ∀ k, K ≤ k → spec_hxNeed.f k r c b pl = some (outS r c pl fin (r * c)) := by
    let ini : List Int := (List.range (r * c)).map (initS r c b pl)
    have hil : ini.length = r * c := by simp [ini]
    have hir : ∀ j : Nat, j < r * c → rd ini j = initS r c b pl j := by
      intro j hj
      unfold rd
      rw [Int.toNat_natCast, List.getD_eq_getElem?_getD]
      simp [ini, hj]
    obtain ⟨i1, i2⟩ := init_ok hpl hn hval hil hir
    obtain ⟨f1, f2⟩ := pN_ok hpl hval hr hc hn (r * c) 0 ini i1 i2
    refine ⟨_, f1, f2, ?_⟩
    have h0 := l0_all (r := r) (c := c) (b := b) (pl := pl) (v := outS r c pl (pN r c b pl (r * c) ini) (r * c)) hc hn hb hpl (r * c) 0 (List.replicate (r * c) 0) (by omega) (by simp) (fun j hj => by omega) (by
      intro fin hfl hfr
      have : fin = ini := by
        apply List.ext_getElem (by rw [hfl, hil])
        intro j h1 h2
        have e1 := hfr j (by omega)
        have e2 := hir j (by omega)
        have g1 : rd fin (j : Nat) = fin[j] := by unfold rd; rw [Int.toNat_natCast, List.getD_eq_getElem?_getD, List.getElem?_eq_getElem h1]; rfl
        have g2 : rd ini (j : Nat) = ini[j] := by unfold rd; rw [Int.toNat_natCast, List.getD_eq_getElem?_getD, List.getElem?_eq_getElem h2]; rfl
        rw [← g1, ← g2, e1, e2]
      subst this
      exact l1_all hpl hr hc hn hb hval (r * c) 0 _ (by omega) i1)
    obtain ⟨K, hK⟩ := h0
    refine ⟨K, fun k hk => ?_⟩
    unfold spec_hxNeed.f
    rw [hw, if_pos (by omega), if_pos (by omega)]
    simp only [Option.bind_some, Int.toNat_natCast, List.length_replicate]
    exact hK k hk
  obtain ⟨fin, f1, f2, K, hK⟩ := main
  refine ⟨K, _, hK, ?_⟩
  obtain ⟨⟨a1, a2⟩, a3⟩ := outS_tells (r := r) (c := c) (pl := pl) fin (r * c)
  have hle : ∀ cc, Cost r c b pl cc → outS r c pl fin (r * c) ≤ cc := by
    rintro cc ⟨i, hl, hP⟩
    obtain ⟨p, c', h1, h2, _, h4, _⟩ := hP.bound (n := r * c) (fun i _ => coG_le b pl i) (fun i hi => hi.1)
    have hi := hP.okEnd.1
    have := a2 i hi hl
    have := f2 _ _ h1 (by omega) _ _ rfl
    omega
  have hno : outS r c pl fin (r * c) = ((r * c : Nat) : Int) + 1 → ∀ cc, ¬ Cost r c b pl cc := by
    intro h cc hcc
    obtain ⟨c', hc', _, h4⟩ := hcc.bound
    have := hle c' hc'
    omega
  rcases a3 with h | ⟨i, hi, hl, h⟩
  · exact .inl ⟨h, hno h⟩
  · rcases f1.tru i hi with h4 | ⟨cc, hP, h4, h5⟩
    · exact .inl ⟨by omega, hno (by omega)⟩
    · right
      have hC : Cost r c b pl cc := ⟨i, hl, hP⟩
      refine ⟨cc, by omega, by omega, hC, fun c' hc' => ?_⟩
      have := hle c' hc'
      omega
end
end Go.Proofs.Ytenaefpbjblmbaa.Pt

namespace Go.Proofs.Ytenaefpbjblmbaa.Pu
open Go.RowKit Go.Proofs.Ytenaefpbjblmbaa.Q Go.Proofs.Ytenaefpbjblmbaa.Given Go.Proofs.Ytenaefpbjblmbaa.Hg Go.Proofs.Ytenaefpbjblmbaa.Pa Go.Proofs.Ytenaefpbjblmbaa.Pq Go.Proofs.Ytenaefpbjblmbaa.Pt Go.Proofs.Ytenaefpbjblmbaa.Pm Go.Proofs.Ytenaefpbjblmbaa.Ph Go.Proofs.YtenaefpbjblmbaaW.PrintWords Go.Proofs.YtenaefpbjblmbaaW.PrintLast
set_option linter.unusedVariables false
set_option linter.unusedSimpArgs false

theorem shape_nat {a c : Int} (h : hshape a c = true) : ∃ r q : Nat, a = (r : Int) ∧ c = (q : Int) ∧ 1 ≤ r ∧ 1 ≤ q ∧ r * q ≤ 30 ∧ wrap64 (a * c) = ((r * q : Nat) : Int) := by
  obtain ⟨⟨h1, h2⟩, ⟨h3, h4⟩, h5⟩ := shape_of h
  obtain ⟨r, rfl⟩ := Int.eq_ofNat_of_zero_le (show 0 ≤ a by omega)
  obtain ⟨q, rfl⟩ := Int.eq_ofNat_of_zero_le (show 0 ≤ c by omega)
  have hle : r * q ≤ 30 * 30 := Nat.mul_le_mul (by omega) (by omega)
  have hw : wrap64 ((r : Int) * (q : Int)) = ((r * q : Nat) : Int) := by
    rw [← Int.natCast_mul]; unfold wrap64; omega
  rw [hw] at h5
  exact ⟨r, q, rfl, rfl, by omega, by omega, by omega, hw⟩
theorem rd_val {l : List Int} (h : ∀ x ∈ l, 0 ≤ x ∧ x ≤ 2) (j : Int) : 0 ≤ rd l j ∧ rd l j ≤ 2 := by
  unfold rd
  rw [List.getD_eq_getElem?_getD]
  by_cases hj : j.toNat < l.length
  · rw [List.getElem?_eq_getElem hj]
    exact h _ (List.getElem_mem hj)
  · rw [List.getElem?_eq_none (by omega)]
    simp
theorem player_f (p : Int) : spec_hxPlayer.f p = some (inRange p 1 2) ∧ impl_isPlayer.f p = some (inRange p 1 2) ∧ (inRange p 1 2 = true → p = 1 ∨ p = 2) := by
  refine ⟨by unfold spec_hxPlayer.f; rw [l1In_f]; rfl, ?_, ?_⟩
  · unfold impl_isPlayer.f inRange
    by_cases h1 : p = 1
    · subst h1; rfl
    · rw [if_neg h1]
      congr 1
      by_cases h2 : p = 2
      · subst h2; rfl
      · rw [beq_eq_false_iff_ne.mpr h2]
        by_cases h3 : 1 ≤ p
        · have : ¬ p ≤ 2 := by omega
          simp [h3, this]
        · simp [h3]
  · intro h
    unfold inRange at h
    simp at h
    omega
/-- Both needs on a board. -/
theorem needs {a c : Int} {l : List Int} {p : Int} (hs : hshape a c = true) (hl : (l.length : Int) = wrap64 (a * c)) (hv : ∀ x ∈ l, 0 ≤ x ∧ x ≤ 2) (hp : p = 1 ∨ p = 2) :
    ∃ (r q : Nat), a = (r : Int) ∧ c = (q : Int) ∧ 1 ≤ r ∧ 1 ≤ q ∧ r * q ≤ 30 ∧ l.length = r * q ∧ wrap64 (a * c) = ((r * q : Nat) : Int) ∧ ∃ (K : Nat) (v u : Int), (∀ k, K ≤ k → impl_need.f k a c l p = some v ∧ spec_hxNeed.f k a c l p = some u) ∧
      ((v = 1000 ∧ u = ((r * q : Nat) : Int) + 1 ∧ ∀ cc, ¬ Cost r q l p cc) ∨ (∃ cc : Nat, v = cc ∧ u = cc ∧ cc ≤ r * q ∧ Cost r q l p cc ∧ ∀ c', Cost r q l p c' → cc ≤ c')) := by
  obtain ⟨r, q, rfl, rfl, h1, h2, h3, h4⟩ := shape_nat hs
  have hln : l.length = r * q := by omega
  obtain ⟨K1, v, hv1, hv2⟩ := need_tells (r := r) (c := q) (b := l) (pl := p) h1 h2 h3 hln hp
  obtain ⟨K2, u, hu1, hu2⟩ := hxNeed_tells (r := r) (c := q) (b := l) (pl := p) h1 h2 h3 hln (rd_val hv) hp
  refine ⟨r, q, rfl, rfl, h1, h2, h3, hln, h4, K1 + K2, v, u, fun k hk => ⟨hv1 k (by omega), hu1 k (by omega)⟩, ?_⟩
  rcases hv2 with ⟨e1, n1⟩ | ⟨cc, e1, b1, C1, m1⟩
  · rcases hu2 with ⟨e2, _⟩ | ⟨cc, _, _, C2, _⟩
    · exact .inl ⟨e1, e2, n1⟩
    · exact absurd C2 (n1 _)
  · rcases hu2 with ⟨_, n2⟩ | ⟨c2, e2, b2, C2, m2⟩
    · exact absurd C1 (n2 _)
    · have := m1 _ C2
      have := m2 _ C1
      exact .inr ⟨cc, e1, by omega, b1, C1, m1⟩

theorem haswon_same (a c : Int) (l : List Int) (p : Int) (hm : l.length ≤ 1099511627776) : ∃ (K : Nat) (g : Bool × Bool), ∀ k, K ≤ k → spec_HasWon.f k a c l p = some g ∧ impl_HasWon.f k a c l p = some g := by
  obtain ⟨bb, _, h2, h3⟩ := board_f a c l hm (l.length + 1) (by omega)
  have hg : ∀ k, l.length + 1 ≤ k → spec_hxGood.f k a c l = some bb := fun k hk => by
    obtain ⟨b2, e1, e2, _⟩ := board_f a c l hm k (by omega)
    rw [e1]; rw [h2] at e2; exact e2.symm
  obtain ⟨p1, p2, p3⟩ := player_f p
  cases bb with
  | false =>
    refine ⟨l.length + 1, (false, false), fun k hk => ⟨?_, ?_⟩⟩
    · unfold spec_HasWon.f; rw [hg k hk]; simp
    · unfold impl_HasWon.f; rw [h2]; simp
  | true =>
    obtain ⟨a1, a2, a3⟩ := h3 rfl
    cases hp : inRange p 1 2 with
    | false =>
      rw [hp] at p1 p2
      refine ⟨l.length + 1, (false, false), fun k hk => ⟨?_, ?_⟩⟩
      · unfold spec_HasWon.f; rw [hg k hk]; simp [p1]
      · unfold impl_HasWon.f; rw [h2]; simp [p2]
    | true =>
      obtain ⟨r, q, _, _, _, _, _, _, _, K, v, u, hK, hvu⟩ := needs a1 a2 a3 (p3 hp)
      rw [hp] at p1 p2
      refine ⟨l.length + 1 + K, (u == 0, true), fun k hk => ⟨?_, ?_⟩⟩
      · unfold spec_HasWon.f; rw [hg k (by omega)]; simp [p1, (hK k (by omega)).2]
      · unfold impl_HasWon.f; rw [h2]; simp only [Option.bind_some, if_true, p2, (hK k (by omega)).1]
        have : (v == 0) = (u == 0) := by
          rcases hvu with ⟨e1, e2, _⟩ | ⟨cc, e1, e2, _⟩
          · rw [beq_eq_false_iff_ne.mpr (by omega), beq_eq_false_iff_ne.mpr (by omega)]
          · rw [e1, e2]
        rw [this]

theorem needof_same (a c : Int) (l : List Int) (p : Int) (hm : l.length ≤ 1099511627776) : ∃ (K : Nat) (g : Int × Bool), ∀ k, K ≤ k → spec_NeedOf.f k a c l p = some g ∧ impl_NeedOf.f k a c l p = some g := by
  obtain ⟨bb, _, h2, h3⟩ := board_f a c l hm (l.length + 1) (by omega)
  have hg : ∀ k, l.length + 1 ≤ k → spec_hxGood.f k a c l = some bb := fun k hk => by
    obtain ⟨b2, e1, e2, _⟩ := board_f a c l hm k (by omega)
    rw [e1]; rw [h2] at e2; exact e2.symm
  obtain ⟨p1, p2, p3⟩ := player_f p
  cases bb with
  | false =>
    refine ⟨l.length + 2, (0, false), fun k hk => ?_⟩
    obtain ⟨k, rfl⟩ : ∃ m, k = m + 1 := ⟨k - 1, by omega⟩
    refine ⟨?_, ?_⟩
    · unfold spec_NeedOf.f; rw [hg _ (by omega)]; simp [spec_NeedOf.j0]
    · unfold impl_NeedOf.f; rw [h2]; simp [impl_NeedOf.j0]
  | true =>
    obtain ⟨a1, a2, a3⟩ := h3 rfl
    cases hp : inRange p 1 2 with
    | false =>
      rw [hp] at p1 p2
      refine ⟨l.length + 2, (0, false), fun k hk => ?_⟩
      obtain ⟨k, rfl⟩ : ∃ m, k = m + 1 := ⟨k - 1, by omega⟩
      refine ⟨?_, ?_⟩
      · unfold spec_NeedOf.f; rw [hg _ (by omega)]; simp [p1, spec_NeedOf.j0]
      · unfold impl_NeedOf.f; rw [h2]; simp [p2, impl_NeedOf.j0]
    | true =>
      obtain ⟨r, q, _, _, _, _, h30, _, hw, K, v, u, hK, hvu⟩ := needs a1 a2 a3 (p3 hp)
      rw [hp] at p1 p2
      refine ⟨l.length + 2 + K, if v ≥ 1000 then (0, false) else (v, true), fun k hk => ?_⟩
      obtain ⟨k, rfl⟩ : ∃ m, k = m + 1 := ⟨k - 1, by omega⟩
      refine ⟨?_, ?_⟩
      · unfold spec_NeedOf.f; rw [hg _ (by omega)]; simp only [Option.bind_some, if_true, p1, Bool.not_true, spec_NeedOf.j0, Bool.false_eq_true, if_false, (hK k (by omega)).2, hw]
        rcases hvu with ⟨e1, e2, _⟩ | ⟨cc, e1, e2, e3, _⟩
        · rw [if_pos (by omega), if_pos (by omega)]
        · rw [if_neg (by omega), if_neg (by omega), e1, e2]
      · unfold impl_NeedOf.f; rw [h2]; simp only [Option.bind_some, if_true, p2, Bool.not_true, impl_NeedOf.j0, Bool.false_eq_true, if_false, (hK k (by omega)).1]
        split <;> rfl
end Go.Proofs.Ytenaefpbjblmbaa.Pu

namespace Go.Proofs.Ytenaefpbjblmbaa.Pw
open Go.RowKit Go.Proofs.Ytenaefpbjblmbaa.Q Go.Proofs.Ytenaefpbjblmbaa.Given Go.Proofs.Ytenaefpbjblmbaa.Hg Go.Proofs.Ytenaefpbjblmbaa.Hu Go.Proofs.Ytenaefpbjblmbaa.He Go.Proofs.Ytenaefpbjblmbaa.Pa Go.Proofs.Ytenaefpbjblmbaa.Pq Go.Proofs.YtenaefpbjblmbaaW.PrintWords Go.Proofs.YtenaefpbjblmbaaW.PrintLast
set_option linter.unusedVariables false
set_option linter.unusedSimpArgs false

section
variable {r c : Nat} {b : List Int}
/-- The places of the board of a kind. -/
def onB (r c : Nat) (b : List Int) (p : Int → Prop) (x y : Int) : Prop := (0 ≤ x ∧ x < r ∧ 0 ≤ y ∧ y < c) ∧ p (rd b ((c : Int) * x + y))

theorem split (hc : 1 ≤ c) (i : Nat) (hi : i < r * c) : (c : Int) * ((i : Int) / c) + (i : Int) % c = i ∧ 0 ≤ (i : Int) / c ∧ (i : Int) / c < r ∧ 0 ≤ (i : Int) % c ∧ (i : Int) % c < c := by
  have h1 := Int.mul_ediv_add_emod (i : Int) (c : Int)
  have h2 : 0 ≤ (i : Int) / c := Int.ediv_nonneg (by omega) (by omega)
  have h3 : (i : Int) / c < r := Int.ediv_lt_of_lt_mul (by omega) (by exact_mod_cast hi)
  exact ⟨h1, h2, h3, Int.emod_nonneg _ (by omega), Int.emod_lt_of_pos _ (by omega)⟩
theorem joins {x y : Int} (h : 0 ≤ x ∧ x < r ∧ 0 ≤ y ∧ y < c) : ∃ i : Nat, i < r * c ∧ (i : Int) = (c : Int) * x + y ∧ (i : Int) / c = x ∧ (i : Int) % c = y := by
  obtain ⟨h0, h1, h2, h3⟩ := h
  have hm : 0 ≤ (c : Int) * x := Int.mul_nonneg (by omega) h0
  have hu : (c : Int) * x ≤ (c : Int) * ((r : Int) - 1) := Int.mul_le_mul_of_nonneg_left (by omega) (by omega)
  have he : (c : Int) * ((r : Int) - 1) = ((r * c : Nat) : Int) - c := by rw [Int.mul_sub, Int.mul_one, Int.natCast_mul, Int.mul_comm]
  obtain ⟨i, hi⟩ := Int.eq_ofNat_of_zero_le (show 0 ≤ (c : Int) * x + y by omega)
  refine ⟨i, by omega, hi.symm, ?_, ?_⟩
  · rw [← hi, Int.mul_add_ediv_left _ _ (by omega), Int.ediv_eq_zero_of_lt h2 h3, Int.add_zero]
  · rw [← hi, Int.mul_add_emod_self_left, Int.emod_eq_of_lt h2 h3]

theorem down_of (hc : 1 ≤ c) (p : Int → Prop) {cc i : Nat} (h : PG r c b 1 cc i) (hp : ∀ j : Nat, okG r c b 1 j → coG b 1 j ≤ cc → p (rd b j)) : Down (onB r c b p) ((i : Int) / c) ((i : Int) % c) := by
  induction h with
  | @start i h1 h2 =>
    obtain ⟨e, a1, a2, a3, a4⟩ := split hc i h2.1
    have hx : (i : Int) / c = 0 := by
      have : firstN c 1 i = true := h1
      unfold firstN at this
      simp at this
      exact Int.ediv_eq_zero_of_lt (by omega) (by exact_mod_cast this)
    have ho : onB r c b p ((i : Int) / c) ((i : Int) % c) := ⟨⟨a1, a2, a3, a4⟩, by rw [e]; exact hp i h2 (Nat.le_refl _)⟩
    rw [hx] at ho ⊢
    exact .top ho
  | @step cc j i hP h1 h2 ih =>
    obtain ⟨e, a1, a2, a3, a4⟩ := split hc i h2.1
    exact .step (ih (fun j hj hl => hp j hj (by omega))) h1.2 ⟨⟨a1, a2, a3, a4⟩, by rw [e]; exact hp i h2 (by omega)⟩
theorem right_of (hc : 1 ≤ c) (p : Int → Prop) {cc i : Nat} (h : PG r c b 2 cc i) (hp : ∀ j : Nat, okG r c b 2 j → coG b 2 j ≤ cc → p (rd b j)) : Right (onB r c b p) ((i : Int) / c) ((i : Int) % c) := by
  induction h with
  | @start i h1 h2 =>
    obtain ⟨e, a1, a2, a3, a4⟩ := split hc i h2.1
    have hx : (i : Int) % c = 0 := by
      have : firstN c 2 i = true := h1
      unfold firstN at this
      simpa using this
    have ho : onB r c b p ((i : Int) / c) ((i : Int) % c) := ⟨⟨a1, a2, a3, a4⟩, by rw [e]; exact hp i h2 (Nat.le_refl _)⟩
    rw [hx] at ho ⊢
    exact .left ho
  | @step cc j i hP h1 h2 ih =>
    obtain ⟨e, a1, a2, a3, a4⟩ := split hc i h2.1
    exact .step (ih (fun j hj hl => hp j hj (by omega))) h1.2 ⟨⟨a1, a2, a3, a4⟩, by rw [e]; exact hp i h2 (by omega)⟩

theorem ends_down (hc : 1 ≤ c) (p : Int → Prop) {cc : Nat} (h : Cost r c b 1 cc) (hp : ∀ j : Nat, okG r c b 1 j → coG b 1 j ≤ cc → p (rd b j)) : ∃ y, Down (onB r c b p) ((r : Int) - 1) y := by
  obtain ⟨i, hl, hP⟩ := h
  have hd := down_of hc p hP hp
  obtain ⟨e, a1, a2, a3, a4⟩ := split hc i hP.okEnd.1
  have hx : (i : Int) / c = (r : Int) - 1 := by
    unfold lastN at hl
    simp at hl
    apply Classical.byContradiction
    intro hne
    have h3 : (c : Int) * ((i : Int) / c) ≤ (c : Int) * ((r : Int) - 1 - 1) := Int.mul_le_mul_of_nonneg_left (by omega) (by omega)
    have h4 : (c : Int) * ((r : Int) - 1 - 1) = (c : Int) * ((r : Int) - 1) - c := by rw [Int.mul_sub (c : Int) ((r : Int) - 1) 1, Int.mul_one]
    omega
  rw [hx] at hd
  exact ⟨_, hd⟩
theorem ends_right (hc : 1 ≤ c) (p : Int → Prop) {cc : Nat} (h : Cost r c b 2 cc) (hp : ∀ j : Nat, okG r c b 2 j → coG b 2 j ≤ cc → p (rd b j)) : ∃ x, Right (onB r c b p) x ((c : Int) - 1) := by
  obtain ⟨i, hl, hP⟩ := h
  have hd := right_of hc p hP hp
  have hx : (i : Int) % c = (c : Int) - 1 := by
    unfold lastN at hl
    simpa using hl
  rw [hx] at hd
  exact ⟨_, hd⟩
theorem co0 {pl : Int} {j : Nat} (h : coG b pl j ≤ 0) : rd b j = pl := by
  unfold coG at h
  split at h
  · assumption
  · omega
/-- Whoever has won leaves the other none. -/
theorem not_both2 (hc : 1 ≤ c) {cc : Nat} (h1 : Cost r c b 1 cc) (h2 : Cost r c b 2 0) : False := by
  obtain ⟨y, hd⟩ := ends_down hc (fun x => x ≠ 2) h1 (fun j ho _ => by rcases ho.2 with h | h <;> omega)
  obtain ⟨x, hr⟩ := ends_right hc (fun x => x = 2) h2 (fun j ho hl => co0 hl)
  exact not_both (R := r) (C := c) (fun x y h => ⟨h.1.1, h.1.2.2⟩) (fun x y h h' => h'.2 h.2) (fun x y h => ⟨h.1.1, h.1.2.1⟩) hd hr
theorem not_both1 (hc : 1 ≤ c) {cc : Nat} (h1 : Cost r c b 1 0) (h2 : Cost r c b 2 cc) : False := by
  obtain ⟨y, hd⟩ := ends_down hc (fun x => x = 1) h1 (fun j ho hl => co0 hl)
  obtain ⟨x, hr⟩ := ends_right hc (fun x => x ≠ 1) h2 (fun j ho _ => by rcases ho.2 with h | h <;> omega)
  exact not_both (R := r) (C := c) (fun x y h => ⟨h.1.1, h.1.2.2⟩) (fun x y h h' => h.2 h'.2) (fun x y h => ⟨h.1.1, h.1.2.1⟩) hd hr

/-! one has won -/
theorem of_down {x y : Int} (own : Int → Int → Bool) (ho : ∀ x y, (0 ≤ x ∧ x < (r : Int) ∧ 0 ≤ y ∧ y < (c : Int)) → own x y = true → rd b ((c : Int) * x + y) = 1) (h : Down (on1 r c own) x y) : ∃ i : Nat, (i : Int) = (c : Int) * x + y ∧ (i : Int) / c = x ∧ (i : Int) % c = y ∧ PG r c b 1 0 i := by
  induction h with
  | @top y h0 =>
    obtain ⟨i, h1, h2, h3, h4⟩ := joins h0.1
    have hv := ho _ _ h0.1 h0.2
    rw [← h2] at hv
    refine ⟨i, h2, h3, h4, ?_⟩
    have : coG b 1 i = 0 := by unfold coG; rw [if_pos hv]
    rw [← this]
    refine .start ?_ ⟨h1, .inl hv⟩
    show firstN c 1 i = true
    have hi : (i : Int) < c := by have := h0.1; omega
    unfold firstN
    simp [hi]
  | @step x y x' y' hd hadj h0 ih =>
    obtain ⟨j, j1, j2, j3, hP⟩ := ih
    obtain ⟨i, h1, h2, h3, h4⟩ := joins h0.1
    have hv := ho _ _ h0.1 h0.2
    rw [← h2] at hv
    refine ⟨i, h2, h3, h4, ?_⟩
    have : coG b 1 i = 0 := by unfold coG; rw [if_pos hv]
    have hs : PG r c b 1 (0 + coG b 1 i) i := .step hP ⟨⟨hP.okEnd.1, h1⟩, by unfold adjI; rw [j2, j3, h3, h4]; exact hadj⟩ ⟨h1, .inl hv⟩
    rw [this] at hs
    exact hs
theorem of_right {x y : Int} (own : Int → Int → Bool) (ho : ∀ x y, (0 ≤ x ∧ x < (r : Int) ∧ 0 ≤ y ∧ y < (c : Int)) → own x y = false → rd b ((c : Int) * x + y) = 2) (h : Right (on2 r c own) x y) : ∃ i : Nat, (i : Int) = (c : Int) * x + y ∧ (i : Int) / c = x ∧ (i : Int) % c = y ∧ PG r c b 2 0 i := by
  induction h with
  | @left x h0 =>
    obtain ⟨i, h1, h2, h3, h4⟩ := joins h0.1
    have hv := ho _ _ h0.1 h0.2
    rw [← h2] at hv
    refine ⟨i, h2, h3, h4, ?_⟩
    have : coG b 2 i = 0 := by unfold coG; rw [if_pos hv]
    rw [← this]
    refine .start ?_ ⟨h1, .inl hv⟩
    show firstN c 2 i = true
    unfold firstN
    simp [h4]
  | @step x y x' y' hd hadj h0 ih =>
    obtain ⟨j, j1, j2, j3, hP⟩ := ih
    obtain ⟨i, h1, h2, h3, h4⟩ := joins h0.1
    have hv := ho _ _ h0.1 h0.2
    rw [← h2] at hv
    refine ⟨i, h2, h3, h4, ?_⟩
    have : coG b 2 i = 0 := by unfold coG; rw [if_pos hv]
    have hs : PG r c b 2 (0 + coG b 2 i) i := .step hP ⟨⟨hP.okEnd.1, h1⟩, by unfold adjI; rw [j2, j3, h3, h4]; exact hadj⟩ ⟨h1, .inl hv⟩
    rw [this] at hs
    exact hs

def ownB (c : Nat) (b : List Int) (x y : Int) : Bool := decide (rd b ((c : Int) * x + y) = 1)
theorem won1_cost (hfull : ∀ i : Nat, i < r * c → rd b i = 1 ∨ rd b i = 2) (h : Won1 r c (ownB c b)) : Cost r c b 1 0 := by
  obtain ⟨y, h⟩ := h
  obtain ⟨i, h1, h2, h3, hP⟩ := of_down (ownB c b) (fun x y _ ho => by unfold ownB at ho; simpa using ho) h
  refine ⟨i, ?_, hP⟩
  unfold lastN
  have hy := h.on.1
  have : (c : Int) * ((r : Int) - 1) ≤ i := by omega
  simp [this]
theorem won2_cost (hfull : ∀ i : Nat, i < r * c → rd b i = 1 ∨ rd b i = 2) (h : Won2 r c (ownB c b)) : Cost r c b 2 0 := by
  obtain ⟨x, h⟩ := h
  obtain ⟨i, h1, h2, h3, hP⟩ := of_right (r := r) (c := c) (b := b) (ownB c b) (fun x y hb ho => by
    obtain ⟨j, j1, j2, _⟩ := joins hb
    unfold ownB at ho
    have := hfull j j1
    rw [j2] at this
    rcases this with e | e
    · rw [e] at ho; simp at ho
    · exact e) h
  refine ⟨i, ?_, hP⟩
  unfold lastN
  simp [h3]
/-- On a full board one of both has won. -/
theorem one_won (hr : 1 ≤ r) (hc : 1 ≤ c) (hfull : ∀ i : Nat, i < r * c → rd b i = 1 ∨ rd b i = 2) : Cost r c b 1 0 ∨ Cost r c b 2 0 := by
  obtain ⟨k, s, _, _, _, _, h⟩ := walk_ends (R := r) (C := c) (own := ownB c b) (by omega) (by omega)
  rcases h with h | h
  · exact .inr (won2_cost hfull h.2.2.2.2)
  · exact .inl (won1_cost hfull h.2.2.2.2)
end
end Go.Proofs.Ytenaefpbjblmbaa.Pw
