/- Plain: the printed loops of the reference's hxNeed are the rounds. For all boards with at most 30 places. -/
import Derived.Test.YtjajahofbhcioaaQx3
import Derived.Test.YtjajahofbhcioaaPr
namespace Go.Proofs.Ytjajahofbhcioaa.Pt
open Go.RowKit Go.Proofs.Ytjajahofbhcioaa.Q Go.Proofs.Ytjajahofbhcioaa.Given Go.Proofs.Ytjajahofbhcioaa.Hg Go.Proofs.Ytjajahofbhcioaa.Pa Go.Proofs.Ytjajahofbhcioaa.Pq Go.Proofs.Ytjajahofbhcioaa.Pr Go.Proofs.YtjajahofbhcioaaW.PrintWords Go.Proofs.YtjajahofbhcioaaW.PrintLast
set_option linter.unusedVariables false
set_option linter.unusedSimpArgs false
section
variable {r c : Nat} {b : List Int} {pl : Int}
set_option maxHeartbeats 2000000 in
theorem l0_step (hc : 1 ≤ c) (hn : r * c ≤ 30) (hb : b.length = r * c) (hpl : pl = 1 ∨ pl = 2) (x : List Int) (hx : x.length = r * c) (i : Nat) (hi : i < r * c) (k : Nat) :
    spec_hxNeed.l0 (k + 1) r c b pl ((r * c : Nat) : Int) x ((r * c : Nat) : Int) (i : Int) = spec_hxNeed.j1 k r c b pl ((r * c : Nat) : Int) (x.set i (((r * c : Nat) : Int) + 1)) (i : Int) ((r * c : Nat) : Int) (i : Int) (initB c b pl i) := by
  have hi' : (i : Int) < ((r * c : Nat) : Int) := by exact_mod_cast hi
  have hw : wrap64 (((r * c : Nat) : Int) + 1) = ((r * c : Nat) : Int) + 1 := wr (by omega) (by omega)
  rw [spec_hxNeed.l0, if_pos hi', if_pos (by omega), if_pos (by rw [hx]; exact hi'), hw]
  simp only [Option.bind_some, Int.toNat_natCast]
  rw [if_pos (by rw [hb]; exact hi')]
  have hm : Int.tmod (i : Int) (c : Int) = (i : Int) % (c : Int) := by rw [Int.tmod_eq_emod_of_nonneg (by omega)]
  have hc0 : ¬ (c : Int) = 0 := by omega
  rcases hpl with rfl | rfl
  · have hw3 : wrap64 (3 - 1) = 2 := by unfold wrap64; omega
    rw [hw3]
    unfold initB firstN
    by_cases h1 : rd b i = 2
    · rw [if_pos h1]; simp [h1]
    · rw [if_neg h1, if_pos rfl]
      by_cases h2 : (i : Int) < (c : Int)
      · rw [if_pos h2]; simp [h1, h2]
      · rw [if_neg h2, if_neg (by decide)]; simp [h1, h2]
  · have hw3 : wrap64 (3 - 2) = 1 := by unfold wrap64; omega
    rw [hw3]
    unfold initB firstN
    by_cases h1 : rd b i = 1
    · rw [if_pos h1]; simp [h1]
    · rw [if_neg h1, if_neg (by decide), if_pos rfl, if_neg hc0, hm]
      simp [h1]

set_option maxHeartbeats 2000000 in
theorem l0_all (hc : 1 ≤ c) (hn : r * c ≤ 30) (hb : b.length = r * c) (hpl : pl = 1 ∨ pl = 2) {v : Int} (d : Nat) : ∀ (i : Nat) (x : List Int), i + d = r * c → x.length = r * c → (∀ j : Nat, j < i → rd x j = initS r c b pl j) →
    (∀ fin : List Int, fin.length = r * c → (∀ j : Nat, j < r * c → rd fin j = initS r c b pl j) → ∃ K, ∀ k, K ≤ k → spec_hxNeed.l1 k r c b pl ((r * c : Nat) : Int) fin 0 = some v) →
    ∃ K, ∀ k, K ≤ k → spec_hxNeed.l0 k r c b pl ((r * c : Nat) : Int) x ((r * c : Nat) : Int) (i : Int) = some v := by
  induction d with
  | zero =>
    intro i x hi hx hj hfin
    obtain rfl : i = r * c := by omega
    refine ev_s 0 (fun k _ => ?_) (hfin x hx hj)
    rw [spec_hxNeed.l0, if_neg (by omega)]
  | succ d ih =>
    intro i x hi hx hj hfin
    have hir : i < r * c := by omega
    have hi' : (i : Int) < ((r * c : Nat) : Int) := by exact_mod_cast hir
    refine ev_s 0 (fun k _ => l0_step hc hn hb hpl x hx i hir k) ?_
    have hwi : wrap64 ((i : Int) + 1) = ((i + 1 : Nat) : Int) := by rw [wr (by omega) (by omega)]; omega
    cases hB : initB c b pl i with
    | false =>
      refine ev_s 0 (fun k _ => ?_) (ih (i + 1) (x.set i (((r * c : Nat) : Int) + 1)) (by omega) (by simp [hx]) ?_ hfin)
      · rw [spec_hxNeed.j1, if_neg (by simp), hwi]
      · intro j hj2
        rw [rd_setN _ _ _ _ (by omega)]
        split
        · rename_i e; subst e; unfold initS; rw [hB]; simp
        · exact hj j (by omega)
    | true =>
      by_cases h0 : rd b i = 0
      · refine ev_s 0 (fun k _ => ?_) (ih (i + 1) (((x.set i (((r * c : Nat) : Int) + 1)).set i 0).set i 1) (by omega) (by simp [hx]) ?_ hfin)
        · rw [spec_hxNeed.j1, if_pos rfl, if_pos (by omega), if_pos (by simp [hx]; omega)]
          simp only [Option.bind_some, Int.toNat_natCast]
          rw [if_pos (by rw [hb]; exact hi'), if_pos h0, hwi]
        · intro j hj2
          rw [rd_setN _ _ _ _ (by simp; omega), rd_setN _ _ _ _ (by simp; omega), rd_setN _ _ _ _ (by omega)]
          split
          · rename_i e; subst e; unfold initS; rw [hB, if_pos rfl, if_pos h0]
          · exact hj j (by omega)
      · refine ev_s 0 (fun k _ => ?_) (ih (i + 1) ((x.set i (((r * c : Nat) : Int) + 1)).set i 0) (by omega) (by simp [hx]) ?_ hfin)
        · rw [spec_hxNeed.j1, if_pos rfl, if_pos (by omega), if_pos (by simp [hx]; omega)]
          simp only [Option.bind_some, Int.toNat_natCast]
          rw [if_pos (by rw [hb]; exact hi'), if_neg h0, hwi]
        · intro j hj2
          rw [rd_setN _ _ _ _ (by simp; omega), rd_setN _ _ _ _ (by omega)]
          split
          · rename_i e; subst e; unfold initS; rw [hB, if_pos rfl, if_neg h0]
          · exact hj j (by omega)

/-! the printed loops -/
set_option maxHeartbeats 2000000 in
theorem l3_all (hpl : pl = 1 ∨ pl = 2) (hr : 1 ≤ r) (hc : 1 ≤ c) (hn : r * c ≤ 30) (hb : b.length = r * c) (hval : ∀ j, 0 ≤ rd b j ∧ rd b j ≤ 2) {v : Int} (x12 : Int) {i : Nat} (hi : i < r * c) (js : List Int) (hjs : ∀ j, j ∈ js → j ∈ hexL r c i 6) (hjl : js.length ≤ 6) (d : Nat) : ∀ (q : Nat) (l : List Int), q + d = js.length → OkS r c b pl l →
    (∃ K, ∀ k, K ≤ k → spec_hxNeed.l2 k r c b pl ((r * c : Nat) : Int) ((js.drop q).foldl (pJ b pl i) l) x12 ((r * c : Nat) : Int) ((i + 1 : Nat) : Int) = some v) →
    ∃ K, ∀ k, K ≤ k → spec_hxNeed.l3 k r c b pl ((r * c : Nat) : Int) l x12 i ((r * c : Nat) : Int) i js (js.length : Int) (q : Int) = some v := by
  induction d with
  | zero =>
    intro q l hq h hv
    obtain rfl : q = js.length := by omega
    rw [List.drop_length] at hv
    refine ev_s 0 (fun k _ => ?_) hv
    rw [spec_hxNeed.l3, if_neg (by omega), wr (by omega) (by omega)]
    rfl
  | succ d ih =>
    intro q l hq h hv
    have hql : q < js.length := by omega
    have hrd : rd js (q : Int) = js[q] := by unfold rd; rw [Int.toNat_natCast, List.getD_eq_getElem?_getD, List.getElem?_eq_getElem hql]; rfl
    have hy := hjs _ (List.getElem_mem hql)
    rw [← hrd] at hy
    rw [List.drop_eq_getElem_cons hql, List.foldl_cons, ← hrd] at hv
    have hyb := hexL_mem (show (1 : Int) ≤ (c : Int) by omega) 6 _ hy
    have hok := (fold_ok hpl hval hr hc hn hi [rd js (q : Int)] l (fun j hj => by rw [List.mem_singleton.mp hj]; exact hy) h).1
    obtain ⟨y, hy'⟩ := Int.eq_ofNat_of_zero_le hyb.1
    rw [hy'] at hy hv hok hyb
    have hyn : y < r * c := by have := hyb.2; exact_mod_cast this
    have hyi : (y : Int) < ((r * c : Nat) : Int) := by exact_mod_cast hyn
    have hii : (i : Int) < ((r * c : Nat) : Int) := by exact_mod_cast hi
    have hwq : wrap64 ((q : Int) + 1) = ((q + 1 : Nat) : Int) := by rw [wr (by omega) (by omega)]; omega
    have hw3 : wrap64 (3 - pl) = 3 - pl := wr (by omega) (by omega)
    have hbi := h.bd i
    refine ev_s 0 (fun k _ => ?_) (ih (q + 1) (pJ b pl i l y) (by omega) hok hv)
    have q1 : (q : Int) < (js.length : Int) := by exact_mod_cast hql
    have q0 : (0 : Int) ≤ (q : Int) := Int.natCast_nonneg q
    have y0 : (0 : Int) ≤ (y : Int) := Int.natCast_nonneg y
    have i0 : (0 : Int) ≤ (i : Int) := Int.natCast_nonneg i
    have hyb1 : (y : Int) < (b.length : Int) := by rw [hb]; exact hyi
    have hyl1 : (y : Int) < (l.length : Int) := by rw [h.len]; exact hyi
    have hil1 : (i : Int) < (l.length : Int) := by rw [h.len]; exact hii
    have hwd : wrap64 (rd l (i : Int) + 1) = rd l (i : Int) + 1 := wr (by omega) (by omega)
    clear hy hyb hok hv hjs ih
    rw [spec_hxNeed.l3, if_pos q1, if_pos q0, if_pos q1, hy', if_pos y0, if_pos hyb1, hw3, hwq]
    unfold pJ
    by_cases h1 : rd b y = 3 - pl
    · rw [if_pos h1, if_pos h1]
    · rw [if_neg h1, if_neg h1, if_pos i0, if_pos hil1]
      have hmin : ∀ x z : Int, spec_l1Least.f x z = some (min x z) := by
        intro x z
        unfold spec_l1Least.f
        split <;> (congr 1; omega)
      by_cases h0 : rd b y = 0
      · rw [if_pos h0, if_pos hyl1, hwd, hmin, if_pos h0]
        rfl
      · rw [if_neg h0, if_pos hyl1, hmin, if_neg h0, Int.add_zero]
        rfl

set_option maxHeartbeats 2000000 in
theorem l2_all (hpl : pl = 1 ∨ pl = 2) (hr : 1 ≤ r) (hc : 1 ≤ c) (hn : r * c ≤ 30) (hb : b.length = r * c) (hval : ∀ j, 0 ≤ rd b j ∧ rd b j ≤ 2) {v : Int} (x12 : Int) (hx : 0 ≤ x12 ∧ x12 ≤ 100) (d : Nat) : ∀ (i : Nat) (l : List Int), i + d = r * c → OkS r c b pl l →
    (∃ K, ∀ k, K ≤ k → spec_hxNeed.l1 k r c b pl ((r * c : Nat) : Int) (pR r c b pl d l) (x12 + 1) = some v) →
    ∃ K, ∀ k, K ≤ k → spec_hxNeed.l2 k r c b pl ((r * c : Nat) : Int) l x12 ((r * c : Nat) : Int) (i : Int) = some v := by
  induction d with
  | zero =>
    intro i l hi h hv
    obtain rfl : i = r * c := by omega
    refine ev_s 0 (fun k _ => ?_) hv
    rw [spec_hxNeed.l2, if_neg (by omega), wr (by omega) (by omega)]
    rfl
  | succ d ih =>
    intro i l hi h hv
    have hir : i < r * c := by omega
    have hl6 := hexL_len r c i 6
    have hok := (fold_ok hpl hval hr hc hn hir (hexL r c i 6) l (fun j hj => hj) h).1
    have hie : r * c - (d + 1) = i := by omega
    unfold pR pI at hv
    rw [hie] at hv
    have h2 := ih (i + 1) _ (by omega) hok hv
    have h3 := l3_all hpl hr hc hn hb hval x12 hir (hexL r c i 6) (fun j hj => hj) hl6 (hexL r c i 6).length 0 l (by omega) h (by rw [List.drop_zero]; exact h2)
    refine ev_s 12 (fun k hk => ?_) h3
    rw [spec_hxNeed.l2, if_pos (by omega), around hr hc hn hir k hk]
    rfl

/-- The least of what is told of the last line. -/
def outS (r c : Nat) (pl : Int) (l : List Int) : Nat → Int
  | 0 => ((r * c : Nat) : Int) + 1
  | i + 1 => if lastN r c pl i then min (outS r c pl l i) (rd l i) else outS r c pl l i
theorem outS_tells (l : List Int) (n : Nat) : (outS r c pl l n ≤ ((r * c : Nat) : Int) + 1 ∧ ∀ i : Nat, i < n → lastN r c pl i = true → outS r c pl l n ≤ rd l i) ∧ (outS r c pl l n = ((r * c : Nat) : Int) + 1 ∨ ∃ i : Nat, i < n ∧ lastN r c pl i = true ∧ outS r c pl l n = rd l i) := by
  induction n with
  | zero => exact ⟨⟨by unfold outS; omega, fun i hi => by omega⟩, .inl rfl⟩
  | succ n ih =>
    obtain ⟨⟨h1, h2⟩, h3⟩ := ih
    unfold outS
    by_cases hl : lastN r c pl n = true
    · rw [if_pos hl]
      refine ⟨⟨by omega, fun i hi hli => ?_⟩, ?_⟩
      · by_cases e : i = n
        · subst e; omega
        · have := h2 i (by omega) hli; omega
      · by_cases hle : outS r c pl l n ≤ rd l n
        · rcases h3 with h | ⟨i, a, b', c'⟩
          · left; omega
          · right; exact ⟨i, by omega, b', by omega⟩
        · right; exact ⟨n, by omega, hl, by omega⟩
    · rw [if_neg hl]
      refine ⟨⟨h1, fun i hi hli => ?_⟩, ?_⟩
      · by_cases e : i = n
        · subst e; exact absurd hli hl
        · exact h2 i (by omega) hli
      · rcases h3 with h | ⟨i, a, b', c'⟩
        · exact .inl h
        · exact .inr ⟨i, by omega, b', c'⟩

set_option maxHeartbeats 2000000 in
theorem l4_all (hpl : pl = 1 ∨ pl = 2) (hr : 1 ≤ r) (hc : 1 ≤ c) (hn : r * c ≤ 30) (l : List Int) (hl : l.length = r * c) (hbd : ∀ j, 0 ≤ rd l j ∧ rd l j ≤ ((r * c : Nat) : Int) + 1) (d : Nat) : ∀ (i : Nat), i + d = r * c →
    ∃ K, ∀ k, K ≤ k → spec_hxNeed.l4 k c pl ((r * c : Nat) : Int) (outS r c pl l i) l ((r * c : Nat) : Int) (i : Int) = some (outS r c pl l (r * c)) := by
  induction d with
  | zero =>
    intro i hi
    obtain rfl : i = r * c := by omega
    refine ⟨1, fun k hk => ?_⟩
    obtain ⟨m, rfl⟩ : ∃ m, k = m + 1 := ⟨k - 1, by omega⟩
    rw [spec_hxNeed.l4, if_neg (by omega)]
  | succ d ih =>
    intro i hi
    have hir : i < r * c := by omega
    have hii : (i : Int) < ((r * c : Nat) : Int) := by exact_mod_cast hir
    have hwi : wrap64 ((i : Int) + 1) = ((i + 1 : Nat) : Int) := by rw [wr (by omega) (by omega)]; omega
    have hc2 : c ≤ r * c := Nat.le_mul_of_pos_left c hr
    have hw1 : wrap64 (((r * c : Nat) : Int) - (c : Int)) = ((r * c : Nat) : Int) - (c : Int) := wr (by omega) (by omega)
    have hw2 : wrap64 ((c : Int) - 1) = (c : Int) - 1 := wr (by omega) (by omega)
    have hm : Int.tmod (i : Int) (c : Int) = (i : Int) % (c : Int) := by rw [Int.tmod_eq_emod_of_nonneg (by omega)]
    have hc0 : ¬ (c : Int) = 0 := by omega
    have hmin : ∀ x z : Int, spec_l1Least.f x z = some (min x z) := by
      intro x z
      unfold spec_l1Least.f
      split <;> (congr 1; omega)
    have hprod : (c : Int) * ((r : Int) - 1) = ((r * c : Nat) : Int) - (c : Int) := by
      rw [Int.mul_sub, Int.mul_one, Int.natCast_mul, Int.mul_comm]
    refine ev_s 0 (fun k _ => ?_) (ih (i + 1) (by omega))
    rw [spec_hxNeed.l4, if_pos hii, if_pos (by omega), if_pos (by rw [hl]; exact hii), hw1, hw2, hwi, hm, hmin]
    have hO : outS r c pl l (i + 1) = if lastN r c pl i then min (outS r c pl l i) (rd l i) else outS r c pl l i := rfl
    rw [hO]
    rcases hpl with rfl | rfl
    · have hL : lastN r c 1 i = decide (((r * c : Nat) : Int) - (c : Int) ≤ (i : Int)) := by
        unfold lastN
        rw [hprod]
        generalize decide (((r * c : Nat) : Int) - (c : Int) ≤ (i : Int)) = D
        generalize ((i : Int) % (c : Int) == (c : Int) - 1) = E
        cases D <;> rfl
      rw [hL]
      by_cases h1 : ((r * c : Nat) : Int) - (c : Int) ≤ (i : Int)
      · rw [if_pos rfl, if_pos h1, if_pos (decide_eq_true h1)]; rfl
      · rw [if_pos rfl, if_neg h1, if_neg (by decide), if_neg (by rw [decide_eq_false h1]; simp)]
    · have hL : lastN r c 2 i = ((i : Int) % (c : Int) == (c : Int) - 1) := by
        unfold lastN
        generalize ((i : Int) % (c : Int) == (c : Int) - 1) = E
        rfl
      rw [hL, if_neg (by decide), if_pos rfl, if_neg hc0]
      by_cases h1 : (i : Int) % (c : Int) = (c : Int) - 1
      · rw [if_pos h1, if_pos (beq_iff_eq.mpr h1)]; rfl
      · rw [if_neg h1, if_neg (by rw [beq_eq_false_iff_ne.mpr h1]; simp)]

set_option maxHeartbeats 2000000 in
theorem l1_all (hpl : pl = 1 ∨ pl = 2) (hr : 1 ≤ r) (hc : 1 ≤ c) (hn : r * c ≤ 30) (hb : b.length = r * c) (hval : ∀ j, 0 ≤ rd b j ∧ rd b j ≤ 2) (d : Nat) : ∀ (q : Nat) (l : List Int), q + d = r * c → OkS r c b pl l →
    ∃ K, ∀ k, K ≤ k → spec_hxNeed.l1 k r c b pl ((r * c : Nat) : Int) l (q : Int) = some (outS r c pl (pN r c b pl d l) (r * c)) := by
  induction d with
  | zero =>
    intro q l hq h
    obtain rfl : q = r * c := by omega
    refine ev_s 0 (fun k _ => ?_) (l4_all hpl hr hc hn l h.len h.bd (r * c) 0 (by omega))
    rw [spec_hxNeed.l1, if_neg (by omega), wr (by omega) (by omega), h.len]
    rfl
  | succ d ih =>
    intro q l hq h
    obtain ⟨a1, _, _⟩ := pR_ok hpl hval hr hc hn (r * c) l (Nat.le_refl _) h
    have h1 := ih (q + 1) _ (by omega) a1
    have h2 := l2_all hpl hr hc hn hb hval (q : Int) (by omega) (r * c) 0 l (by omega) h (by
      rw [show ((q : Int) + 1) = ((q + 1 : Nat) : Int) by omega]; exact h1)
    refine ev_s 0 (fun k _ => ?_) h2
    rw [spec_hxNeed.l1, if_pos (by omega), h.len]
    rfl

theorem init_ok (hpl : pl = 1 ∨ pl = 2) (hn : r * c ≤ 30) (hval : ∀ j, 0 ≤ rd b j ∧ rd b j ≤ 2) {l : List Int} (hl : l.length = r * c) (hi : ∀ j : Nat, j < r * c → rd l j = initS r c b pl j) :
    OkS r c b pl l ∧ (∀ p cc, PL (nbG r c) (stG c pl) (okG r c b pl) (coG b pl) p cc → p.length ≤ 0 + 1 → ∀ i t, p = i :: t → rd l (i : Nat) ≤ (cc : Int)) := by
  have hB : ∀ i : Nat, i < r * c → initB c b pl i = true → okG r c b pl i ∧ stG c pl i ∧ initS r c b pl i = (coG b pl i : Nat) := by
    intro i hi h
    have hv := hval i
    unfold initS
    rw [if_pos h]
    unfold initB at h
    simp only [Bool.and_eq_true, Bool.not_eq_true', decide_eq_false_iff_not] at h
    refine ⟨⟨hi, by omega⟩, h.2, ?_⟩
    unfold coG
    by_cases h2 : rd b i = 0
    · rw [if_pos h2, if_neg (by omega)]; rfl
    · rw [if_neg h2, if_pos (by omega)]; rfl
  refine ⟨⟨fun i hin => ?_, fun j => ?_, hl⟩, ?_⟩
  · rw [hi i hin]
    cases hb : initB c b pl i with
    | true =>
      obtain ⟨h1, h2, h3⟩ := hB i hin hb
      right
      have := coG_le b pl i
      exact ⟨_, .start h2 h1, h3, by omega⟩
    | false => left; unfold initS; rw [hb]; simp
  · by_cases hj : 0 ≤ j ∧ j < ((r * c : Nat) : Int)
    · obtain ⟨y, rfl⟩ := Int.eq_ofNat_of_zero_le hj.1
      rw [hi y (by omega)]
      unfold initS
      split
      · split <;> omega
      · omega
    · by_cases hneg : j < 0
      · have e : rd l j = rd l ((0 : Nat) : Int) := by unfold rd; rw [show j.toNat = 0 by omega]; rfl
        by_cases h0 : 0 < r * c
        · rw [e, hi 0 h0]
          unfold initS
          split
          · split <;> omega
          · omega
        · rw [e]
          have : l = [] := List.length_eq_zero_iff.mp (by omega)
          subst this
          simp [rd]; omega
      · have : rd l j = 0 := by
          unfold rd
          rw [List.getD_eq_getElem?_getD, List.getElem?_eq_none (by omega)]; rfl
        omega
  · intro p cc hPL hlen i t hpe
    cases hPL with
    | @one i0 h1 h2 =>
      cases hpe
      have hv := hval i
      have hib : initB c b pl i = true := by
        unfold initB
        simp only [Bool.and_eq_true, Bool.not_eq_true', decide_eq_false_iff_not]
        refine ⟨?_, h1⟩
        have := h2.2
        omega
      rw [hi i h2.1, (hB i h2.1 hib).2.2]
      exact Int.le_refl _
    | @cons i0 j l0 cc0 h0 h1 h2 => simp at hlen

/-- What hxNeed tells: the least cost, or more than there are places if there is none. -/
theorem hxNeed_tells (hr : 1 ≤ r) (hc : 1 ≤ c) (hn : r * c ≤ 30) (hb : b.length = r * c) (hval : ∀ j, 0 ≤ rd b j ∧ rd b j ≤ 2) (hpl : pl = 1 ∨ pl = 2) :
    ∃ (K : Nat) (v : Int), (∀ k, K ≤ k → spec_hxNeed.f k r c b pl = some v) ∧ ((v = ((r * c : Nat) : Int) + 1 ∧ ∀ cc, ¬ Cost r c b pl cc) ∨ (∃ cc : Nat, v = cc ∧ cc ≤ r * c ∧ Cost r c b pl cc ∧ ∀ c', Cost r c b pl c' → cc ≤ c')) := by
  have hw : wrap64 ((r : Int) * (c : Int)) = ((r * c : Nat) : Int) := by
    rw [← Int.natCast_mul]; exact wr (by omega) (by omega)
  have main : ∃ fin : List Int, OkS r c b pl fin ∧ (∀ p cc, PL (nbG r c) (stG c pl) (okG r c b pl) (coG b pl) p cc → p.length ≤ 0 + r * c + 1 → ∀ i t, p = i :: t → rd fin (i : Nat) ≤ (cc : Int)) ∧
      ∃ K, ∀ k, K ≤ k → spec_hxNeed.f k r c b pl = some (outS r c pl fin (r * c)) := by
    let ini : List Int := (List.range (r * c)).map (initS r c b pl)
    have hil : ini.length = r * c := by simp [ini]
    have hir : ∀ j : Nat, j < r * c → rd ini j = initS r c b pl j := by
      intro j hj
      unfold rd
      rw [Int.toNat_natCast, List.getD_eq_getElem?_getD]
      simp [ini, hj]
    obtain ⟨i1, i2⟩ := init_ok hpl hn hval hil hir
    obtain ⟨f1, f2⟩ := pN_ok hpl hval hr hc hn (r * c) 0 ini i1 i2
    refine ⟨_, f1, f2, ?_⟩
    have h0 := l0_all (r := r) (c := c) (b := b) (pl := pl) (v := outS r c pl (pN r c b pl (r * c) ini) (r * c)) hc hn hb hpl (r * c) 0 (List.replicate (r * c) 0) (by omega) (by simp) (fun j hj => by omega) (by
      intro fin hfl hfr
      have : fin = ini := by
        apply List.ext_getElem (by rw [hfl, hil])
        intro j h1 h2
        have e1 := hfr j (by omega)
        have e2 := hir j (by omega)
        have g1 : rd fin (j : Nat) = fin[j] := by unfold rd; rw [Int.toNat_natCast, List.getD_eq_getElem?_getD, List.getElem?_eq_getElem h1]; rfl
        have g2 : rd ini (j : Nat) = ini[j] := by unfold rd; rw [Int.toNat_natCast, List.getD_eq_getElem?_getD, List.getElem?_eq_getElem h2]; rfl
        rw [← g1, ← g2, e1, e2]
      subst this
      exact l1_all hpl hr hc hn hb hval (r * c) 0 _ (by omega) i1)
    obtain ⟨K, hK⟩ := h0
    refine ⟨K, fun k hk => ?_⟩
    unfold spec_hxNeed.f
    rw [hw, if_pos (by omega), if_pos (by omega)]
    simp only [Option.bind_some, Int.toNat_natCast, List.length_replicate]
    exact hK k hk
  obtain ⟨fin, f1, f2, K, hK⟩ := main
  refine ⟨K, _, hK, ?_⟩
  obtain ⟨⟨a1, a2⟩, a3⟩ := outS_tells (r := r) (c := c) (pl := pl) fin (r * c)
  have hle : ∀ cc, Cost r c b pl cc → outS r c pl fin (r * c) ≤ cc := by
    rintro cc ⟨i, hl, hP⟩
    obtain ⟨p, c', h1, h2, _, h4, _⟩ := hP.bound (n := r * c) (fun i _ => coG_le b pl i) (fun i hi => hi.1)
    have hi := hP.okEnd.1
    have := a2 i hi hl
    have := f2 _ _ h1 (by omega) _ _ rfl
    omega
  have hno : outS r c pl fin (r * c) = ((r * c : Nat) : Int) + 1 → ∀ cc, ¬ Cost r c b pl cc := by
    intro h cc hcc
    obtain ⟨c', hc', _, h4⟩ := hcc.bound
    have := hle c' hc'
    omega
  rcases a3 with h | ⟨i, hi, hl, h⟩
  · exact .inl ⟨h, hno h⟩
  · rcases f1.tru i hi with h4 | ⟨cc, hP, h4, h5⟩
    · exact .inl ⟨by omega, hno (by omega)⟩
    · right
      have hC : Cost r c b pl cc := ⟨i, hl, hP⟩
      refine ⟨cc, by omega, by omega, hC, fun c' hc' => ?_⟩
      have := hle c' hc'
      omega
end
end Go.Proofs.Ytjajahofbhcioaa.Pt
