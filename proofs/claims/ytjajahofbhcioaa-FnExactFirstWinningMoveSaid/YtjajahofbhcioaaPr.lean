/- Plain: what the reference's hxNeed tells: the least cost of a path. For all boards with at most 30 places. -/
import Derived.Test.YtjajahofbhcioaaPq
namespace Go.Proofs.Ytjajahofbhcioaa.Pr
open Go.RowKit Go.Proofs.Ytjajahofbhcioaa.Q Go.Proofs.Ytjajahofbhcioaa.Given Go.Proofs.Ytjajahofbhcioaa.Hg Go.Proofs.Ytjajahofbhcioaa.Pa Go.Proofs.Ytjajahofbhcioaa.Pq Go.Proofs.YtjajahofbhcioaaW.PrintWords Go.Proofs.YtjajahofbhcioaaW.PrintLast
set_option linter.unusedVariables false
set_option linter.unusedSimpArgs false

theorem ev_s {α : Type} {g f : Nat → Option α} {v : α} (K0 : Nat) (h : ∀ k, K0 ≤ k → g (k + 1) = f k) (hf : ∃ K, ∀ k, K ≤ k → f k = some v) : ∃ K, ∀ k, K ≤ k → g k = some v := by
  obtain ⟨K, hK⟩ := hf
  refine ⟨K + K0 + 1, fun k hk => ?_⟩
  obtain ⟨m, rfl⟩ : ∃ m, k = m + 1 := ⟨k - 1, by omega⟩
  rw [h m (by omega)]
  exact hK m (by omega)
theorem wr {x : Int} (h0 : -1000000 ≤ x) (h1 : x ≤ 1000000) : wrap64 x = x := by unfold wrap64; omega

section
variable {r c : Nat} {b : List Int} {pl : Int}
/-- What is told first. -/
def initB (c : Nat) (b : List Int) (pl : Int) (i : Nat) : Bool := !(decide (rd b i = 3 - pl)) && firstN c pl i
def initS (r c : Nat) (b : List Int) (pl : Int) (i : Nat) : Int := if initB c b pl i then (if rd b i = 0 then 1 else 0) else ((r * c : Nat) : Int) + 1

theorem rd_setN (l : List Int) (i j : Nat) (v : Int) (hl : i < l.length) : rd (l.set i v) (j : Nat) = if i = j then v else rd l (j : Nat) := by
  have := rd_set l (i : Int) (j : Int) v (by omega) (by exact_mod_cast hl)
  simpa using this

/-! the rounds -/
def pJ (b : List Int) (pl : Int) (i : Nat) (l : List Int) (j : Int) : List Int := if rd b j = 3 - pl then l else l.set j.toNat (min (rd l j) (rd l i + (if rd b j = 0 then 1 else 0)))
def pI (r c : Nat) (b : List Int) (pl : Int) (l : List Int) (i : Nat) : List Int := (hexL r c i 6).foldl (pJ b pl i) l
def pR (r c : Nat) (b : List Int) (pl : Int) : Nat → List Int → List Int
  | 0, l => l
  | m + 1, l => pR r c b pl m (pI r c b pl l (r * c - (m + 1)))
def pN (r c : Nat) (b : List Int) (pl : Int) : Nat → List Int → List Int
  | 0, l => l
  | m + 1, l => pN r c b pl m (pR r c b pl (r * c) l)

/-- What is told so far. -/
structure OkS (r c : Nat) (b : List Int) (pl : Int) (l : List Int) : Prop where
  tru : Tru r c b pl (r * c + 1) l
  bd : ∀ j, 0 ≤ rd l j ∧ rd l j ≤ ((r * c : Nat) : Int) + 1
  len : l.length = r * c
def Le (l' l : List Int) : Prop := ∀ j : Nat, rd l' j ≤ rd l j
theorem Le.refl (l : List Int) : Le l l := fun _ => Int.le_refl _
theorem Le.trans {a b c : List Int} (h : Le a b) (k : Le b c) : Le a c := fun j => Int.le_trans (h j) (k j)

theorem pJ_ok (hpl : pl = 1 ∨ pl = 2) (hval : ∀ j, 0 ≤ rd b j ∧ rd b j ≤ 2) (hr : 1 ≤ r) (hc : 1 ≤ c) (hn : r * c ≤ 30) {l : List Int} (h : OkS r c b pl l) {i j : Nat} (hi : i < r * c) (hj : j < r * c) (ha : adjI c i j) :
    OkS r c b pl (pJ b pl i l j) ∧ Le (pJ b pl i l j) l ∧ (okG r c b pl j → rd (pJ b pl i l j) j ≤ rd l i + (coG b pl j : Nat)) := by
  have hv := hval j
  unfold pJ
  by_cases h1 : rd b j = 3 - pl
  · rw [if_pos h1]
    refine ⟨h, Le.refl _, fun ho => ?_⟩
    exfalso
    rcases ho.2 with h2 | h2 <;> omega
  · rw [if_neg h1]
    have hok : okG r c b pl j := ⟨hj, by omega⟩
    have hco : (if rd b j = 0 then (1 : Int) else 0) = (coG b pl j : Nat) := by
      unfold coG
      by_cases h2 : rd b j = 0
      · rw [if_pos h2, if_neg (by omega)]; rfl
      · rw [if_neg h2, if_pos (by omega)]; rfl
    rw [hco]
    have hjl : j < l.length := by rw [h.len]; exact hj
    have hset : ∀ x : Nat, rd (l.set (j : Int).toNat (min (rd l j) (rd l i + (coG b pl j : Nat)))) x = if j = x then min (rd l j) (rd l i + (coG b pl j : Nat)) else rd l x := by
      intro x
      rw [Int.toNat_natCast]
      exact rd_setN l j x _ hjl
    have hbi := h.bd i
    have hbj := h.bd j
    refine ⟨⟨fun x hx => ?_, fun x => ?_, by simp [h.len]⟩, fun x => ?_, fun _ => ?_⟩
    · rw [hset]
      split
      · rename_i e
        subst e
        by_cases hm : rd l j ≤ rd l i + (coG b pl j : Nat)
        · rw [show min (rd l j) (rd l i + (coG b pl j : Nat)) = rd l j by omega]
          exact h.tru j hj
        · rw [show min (rd l j) (rd l i + (coG b pl j : Nat)) = rd l i + (coG b pl j : Nat) by omega]
          rcases h.tru i hi with h2 | ⟨cc, hP, h2, h3⟩
          · omega
          · right
            exact ⟨cc + coG b pl j, .step hP ⟨⟨hi, hj⟩, ha⟩ hok, by omega, by omega⟩
      · exact h.tru x hx
    · rw [Int.toNat_natCast]
      have := rd_set l (j : Int) x (min (rd l j) (rd l i + (coG b pl j : Nat))) (by omega) (by exact_mod_cast hjl)
      rw [Int.toNat_natCast] at this
      rw [this]
      split
      · omega
      · exact h.bd x
    · rw [hset]
      split
      · rename_i e; subst e; omega
      · omega
    · rw [hset, if_pos rfl]; omega

theorem fold_ok (hpl : pl = 1 ∨ pl = 2) (hval : ∀ j, 0 ≤ rd b j ∧ rd b j ≤ 2) (hr : 1 ≤ r) (hc : 1 ≤ c) (hn : r * c ≤ 30) {i : Nat} (hi : i < r * c) : ∀ (js : List Int) (l : List Int), (∀ j, j ∈ js → j ∈ hexL r c i 6) → OkS r c b pl l →
    OkS r c b pl (js.foldl (pJ b pl i) l) ∧ Le (js.foldl (pJ b pl i) l) l ∧ (∀ j : Nat, (j : Int) ∈ js → okG r c b pl j → rd (js.foldl (pJ b pl i) l) j ≤ rd l i + (coG b pl j : Nat)) := by
  intro js
  induction js with
  | nil => intro l _ h; exact ⟨h, Le.refl _, fun j hj => by cases hj⟩
  | cons y js ih =>
    intro l hm h
    have hy := hm y (by simp)
    have hyb := hexL_mem (show (1 : Int) ≤ (c : Int) by omega) 6 y hy
    obtain ⟨y, rfl⟩ := Int.eq_ofNat_of_zero_le hyb.1
    have hyn : y < r * c := by have := hyb.2; exact_mod_cast this
    have hadj := (near_iff hr hc hn hi hyn).mp hy
    obtain ⟨a1, a2, a3⟩ := pJ_ok hpl hval hr hc hn h hi hyn hadj
    obtain ⟨b1, b2, b3⟩ := ih (pJ b pl i l y) (fun j hj => hm j (List.mem_cons_of_mem _ hj)) a1
    refine ⟨b1, b2.trans a2, fun j hj ho => ?_⟩
    show rd (js.foldl (pJ b pl i) (pJ b pl i l y)) j ≤ _
    rcases List.mem_cons.mp hj with e | hj
    · have e' : j = y := by exact_mod_cast e
      subst e'
      exact Int.le_trans (b2 j) (a3 ho)
    · have := b3 j hj ho
      have := a2 i
      omega

theorem pR_ok (hpl : pl = 1 ∨ pl = 2) (hval : ∀ j, 0 ≤ rd b j ∧ rd b j ≤ 2) (hr : 1 ≤ r) (hc : 1 ≤ c) (hn : r * c ≤ 30) : ∀ (m : Nat) (l : List Int), m ≤ r * c → OkS r c b pl l →
    OkS r c b pl (pR r c b pl m l) ∧ Le (pR r c b pl m l) l ∧ (∀ i j : Nat, r * c - m ≤ i → i < r * c → okG r c b pl j → nbG r c i j → rd (pR r c b pl m l) j ≤ rd l i + (coG b pl j : Nat)) := by
  intro m
  induction m with
  | zero => intro l _ h; exact ⟨h, Le.refl _, fun i j h1 h2 => by omega⟩
  | succ m ih =>
    intro l hm h
    have hi : r * c - (m + 1) < r * c := by omega
    obtain ⟨a1, a2, a3⟩ := fold_ok hpl hval hr hc hn hi (hexL r c (r * c - (m + 1) : Nat) 6) l (fun j hj => hj) h
    obtain ⟨b1, b2, b3⟩ := ih _ (by omega) a1
    unfold pR
    refine ⟨b1, b2.trans a2, fun i j h1 h2 ho hnb => ?_⟩
    by_cases e : i = r * c - (m + 1)
    · subst e
      exact Int.le_trans (b2 j) (a3 j ((near_iff hr hc hn hnb.1.1 hnb.1.2).mpr hnb.2) ho)
    · have e1 := b3 i j (by omega) h2 ho hnb
      have e2 := a2 i
      exact Int.le_trans e1 (by omega)

theorem pN_ok (hpl : pl = 1 ∨ pl = 2) (hval : ∀ j, 0 ≤ rd b j ∧ rd b j ≤ 2) (hr : 1 ≤ r) (hc : 1 ≤ c) (hn : r * c ≤ 30) : ∀ (m q : Nat) (l : List Int), OkS r c b pl l →
    (∀ p cc, PL (nbG r c) (stG c pl) (okG r c b pl) (coG b pl) p cc → p.length ≤ q + 1 → ∀ i t, p = i :: t → rd l (i : Nat) ≤ (cc : Int)) →
    OkS r c b pl (pN r c b pl m l) ∧ (∀ p cc, PL (nbG r c) (stG c pl) (okG r c b pl) (coG b pl) p cc → p.length ≤ q + m + 1 → ∀ i t, p = i :: t → rd (pN r c b pl m l) (i : Nat) ≤ (cc : Int)) := by
  intro m
  induction m with
  | zero => intro q l h hp; exact ⟨h, hp⟩
  | succ m ih =>
    intro q l h hp
    obtain ⟨a1, a2, a3⟩ := pR_ok hpl hval hr hc hn (r * c) l (Nat.le_refl _) h
    unfold pN
    have hstep : ∀ p cc, PL (nbG r c) (stG c pl) (okG r c b pl) (coG b pl) p cc → p.length ≤ q + 1 + 1 → ∀ i t, p = i :: t → rd (pR r c b pl (r * c) l) (i : Nat) ≤ (cc : Int) := by
      intro p cc hPL hlen i t hpe
      cases hPL with
      | @one i0 h1 h2 =>
        cases hpe
        exact Int.le_trans (a2 i) (hp _ _ (.one h1 h2) (by simp) _ _ rfl)
      | @cons i0 j l0 cc0 h0 h1 h2 =>
        cases hpe
        have e1 := hp _ _ h0 (by simp at hlen ⊢; omega) _ _ rfl
        have e2 := a3 j i (by omega) h1.1.1 h2 h1
        omega
    obtain ⟨b1, b2⟩ := ih (q + 1) _ a1 hstep
    exact ⟨b1, fun p cc h1 h2 => b2 p cc h1 (by omega)⟩

end
end Go.Proofs.Ytjajahofbhcioaa.Pr
