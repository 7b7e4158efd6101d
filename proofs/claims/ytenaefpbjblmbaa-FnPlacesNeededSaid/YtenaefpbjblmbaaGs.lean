/- impl.need by hand: closures over boxes, passes over the board until nothing changes; for all boards. -/
import Derived.Test.YtenaefpbjblmbaaGq
import Derived.Test.YtenaefpbjblmbaaGr
import Derived.Lib.Walk
import Derived.Shelf.Abstract
import Derived.Outline
namespace Go.Proofs.Ytenaefpbjblmbaa.Given
open Go.Proofs.Ytenaefpbjblmbaa.Q Go.RowKit Go.Proofs.YtenaefpbjblmbaaW.PrintWords Go.Proofs.YtenaefpbjblmbaaW.PrintLast Go.Proofs.YtenaefpbjblmbaaW.PrintMore
set_option linter.unusedVariables false
set_option linter.unusedSimpArgs false

/-! what need computes -/
def costN (b : List Int) (a3 i : Int) : Int := if rd b i = a3 then 0 else if rd b i = 0 then 1 else 1000
def firstN (a1 a3 i : Int) : Bool := (decide (a3 = 1) && decide (i < a1)) || (decide (a3 = 2) && (i % a1 == 0))
def lastN (a0 a1 a3 i : Int) : Bool := (decide (a3 = 1) && decide (a1 * (a0 - 1) ≤ i)) || (decide (a3 = 2) && (i % a1 == a1 - 1))
def leastN (l : List Int) : List Int → Int → Int
  | [], x => x
  | j :: js, x => leastN l js (min x (rd l j))
theorem leastN_cons (l : List Int) (j : Int) (js : List Int) (x : Int) : leastN l (j :: js) x = leastN l js (min x (rd l j)) := rfl
theorem leastN_nil (l : List Int) (x : Int) : leastN l [] x = x := rfl
def newN (a0 a1 : Int) (b : List Int) (a3 : Int) (l : List Int) (i : Int) : Int := leastN l (hexL a0 a1 i 6) (if firstN a1 a3 i then 0 else 1000) + costN b a3 i
def relL (a0 a1 : Int) (b : List Int) (a3 : Int) (l : List Int) (i : Int) : List Int := if newN a0 a1 b a3 l i < rd l i then l.set i.toNat (newN a0 a1 b a3 l i) else l
def relB (a0 a1 : Int) (b : List Int) (a3 : Int) (l : List Int) (i : Int) : Bool := decide (newN a0 a1 b a3 l i < rd l i)
def passN (a0 a1 : Int) (b : List Int) (a3 : Int) : Nat → List Int → Bool → Nat → List Int × Bool
  | 0, l, more, _ => (l, more)
  | m + 1, l, more, i => passN a0 a1 b a3 m (relL a0 a1 b a3 l i) (more || relB a0 a1 b a3 l i) (i + 1)
def iterN (a0 a1 : Int) (b : List Int) (a3 : Int) : Nat → List Int → Option (List Int)
  | 0, _ => none
  | k + 1, l => if (passN a0 a1 b a3 b.length l false 0).2 then iterN a0 a1 b a3 k (passN a0 a1 b a3 b.length l false 0).1 else some (passN a0 a1 b a3 b.length l false 0).1
def outN (a0 a1 a3 : Int) (l : List Int) : Nat → Int
  | 0 => 1000
  | i + 1 => if lastN a0 a1 a3 i then min (outN a0 a1 a3 l i) (rd l i) else outN a0 a1 a3 l i
def NDom (a0 a1 : Int) (b : List Int) (a3 : Int) : Prop := ((1 ≤ a0 ∧ a0 ≤ 30) ∧ (1 ≤ a1 ∧ a1 ≤ 30)) ∧ ((b.length : Int) = a0 * a1 ∧ b.length ≤ 30) ∧ (a3 = 1 ∨ a3 = 2)
instance (a0 a1 : Int) (b : List Int) (a3 : Int) : Decidable (NDom a0 a1 b a3) := by unfold NDom; infer_instance
def impl_need.f (k : Nat) (a0 a1 : Int) (b : List Int) (a3 : Int) : Option Int := if NDom a0 a1 b a3 then ((iterN a0 a1 b a3 k (List.replicate b.length 1000)).bind fun l => some (outN a0 a1 a3 l l.length)) else none
theorem iterN_mono (a0 a1 : Int) (b : List Int) (a3 : Int) : ∀ k l, LeO (iterN a0 a1 b a3 k l) (iterN a0 a1 b a3 (k + 1) l) := by
  intro k
  induction k with
  | zero => intro l r h; cases h
  | succ k ih =>
    intro l r h
    unfold iterN at h ⊢
    split at h
    · rename_i h1
      rw [if_pos h1]
      exact ih _ r h
    · rename_i h1
      rw [if_neg h1]
      exact h
theorem impl_need.mono : ∀ a0 a1 a2 a3 k, LeO (impl_need.f k a0 a1 a2 a3) (impl_need.f (k + 1) a0 a1 a2 a3) := by
  intro a0 a1 a2 a3 k
  unfold impl_need.f
  exact LeO.ite (LeO.bind (iterN_mono _ _ _ _ _ _) (fun _ => LeO.refl _)) (LeO.refl _)

/-! bounds -/
def Bd (l : List Int) : Prop := ∀ j, 0 ≤ rd l j ∧ rd l j ≤ 1000
theorem leastN_bd {l : List Int} (h : Bd l) (js : List Int) : ∀ x, 0 ≤ x → x ≤ 1000 → 0 ≤ leastN l js x ∧ leastN l js x ≤ 1000 := by
  induction js with
  | nil => intro x h0 h1; exact ⟨h0, h1⟩
  | cons j js ih =>
    intro x h0 h1
    have := h j
    unfold leastN
    exact ih _ (by omega) (by omega)
theorem costN_bd (b : List Int) (a3 i : Int) : 0 ≤ costN b a3 i ∧ costN b a3 i ≤ 1000 := by
  unfold costN
  split
  · omega
  · split <;> omega
theorem newN_bd {l : List Int} (h : Bd l) (a0 a1 : Int) (b : List Int) (a3 i : Int) : 0 ≤ newN a0 a1 b a3 l i := by
  unfold newN
  have h1 := costN_bd b a3 i
  have h2 : 0 ≤ leastN l (hexL a0 a1 i 6) (if firstN a1 a3 i then 0 else 1000) := by
    split
    · exact (leastN_bd h _ 0 (by omega) (by omega)).1
    · exact (leastN_bd h _ 1000 (by omega) (by omega)).1
  omega
theorem rd_set (l : List Int) (i j v : Int) (hi : 0 ≤ i) (hl : i < l.length) : rd (l.set i.toNat v) j = if i.toNat = j.toNat then v else rd l j := by
  unfold rd
  rw [List.getD_eq_getElem?_getD, List.getElem?_set]
  split
  · rename_i h
    rw [if_pos (by omega), Option.getD_some]
  · rw [List.getD_eq_getElem?_getD]
theorem relL_bd {l : List Int} (h : Bd l) (a0 a1 : Int) (b : List Int) (a3 i : Int) (hi : 0 ≤ i) (hl : i < l.length) : Bd (relL a0 a1 b a3 l i) := by
  unfold relL
  split
  · rename_i hlt
    intro j
    rw [rd_set l i j _ hi hl]
    split
    · have := newN_bd h a0 a1 b a3 i
      have := h i
      omega
    · exact h j
  · exact h
theorem relL_len (a0 a1 : Int) (b : List Int) (a3 : Int) (l : List Int) (i : Int) : (relL a0 a1 b a3 l i).length = l.length := by
  unfold relL; split <;> simp
theorem hexTo_bd {a0 a1 i : Int} {k : Nat} (hc : 1 ≤ a1) (h : hexIn a0 a1 i k = true) : 0 ≤ hexTo a1 i k ∧ hexTo a1 i k < a0 * a1 := by
  unfold hexIn inRange at h
  simp only [Bool.and_eq_true, decide_eq_true_eq] at h
  obtain ⟨⟨x0, x1⟩, y0, y1⟩ := h
  unfold hexTo
  generalize i / a1 + hsr k = x at *
  generalize i % a1 + hsc k = y at *
  have h1 : 0 ≤ a1 * x := Int.mul_nonneg (by omega) x0
  have h2 : a1 * x ≤ a1 * (a0 - 1) := Int.mul_le_mul_of_nonneg_left x1 (by omega)
  have h3 : a1 * (a0 - 1) = a0 * a1 - a1 := by rw [Int.mul_sub, Int.mul_comm, Int.mul_one]
  omega
theorem hexL_mem {a0 a1 i : Int} (hc : 1 ≤ a1) : ∀ m j, j ∈ hexL a0 a1 i m → 0 ≤ j ∧ j < a0 * a1 := by
  intro m
  induction m with
  | zero => intro j hj; simp [hexL] at hj
  | succ m ih =>
    intro j hj
    unfold hexL at hj
    split at hj
    · rename_i h
      rcases List.mem_append.mp hj with h1 | h1
      · exact ih j h1
      · rw [List.mem_singleton.mp h1]
        exact hexTo_bd hc h
    · exact ih j hj

/-! the closures -/
set_option maxHeartbeats 2000000 in
theorem need_first (i a1 a3 : Int) (p q : Nat) (W : World) (h3 : a3 = 1 ∨ a3 = 2) (h1 : 1 ≤ a1 ∧ a1 ≤ 30) (hi : 0 ≤ i ∧ i ≤ 1000) (hp : W.cell? ⟨p, 0, none⟩ = some (.int .i64 a3)) (hq : W.cell? ⟨q, 0, none⟩ = some (.int .i64 a1)) :
    Calls Try.prog 83 #[.int .i64 i, .pointer (some ⟨p, 0, none⟩), .pointer (some ⟨q, 0, none⟩)] W fun e w' => e = .returned (.bool (firstN a1 a3 i)) ∧ Drawn0 W w' := by
  obtain ⟨h1, h1'⟩ := h1
  obtain ⟨hi, hi'⟩ := hi
  have m0 : 0 ≤ i % a1 := Int.emod_nonneg _ (by omega)
  have m1 : i % a1 < a1 := Int.emod_lt_of_pos _ (by omega)
  rcases h3 with rfl | rfl
  · by_cases hlt : i < a1
    all_goals
      go_enter Try.func83, Try.ntmps83
      go_wp2
      go_ret
      exact ⟨by simp [firstN, hlt], Drawn0.refl _⟩
  · by_cases hlt : i % a1 = 0
    · have e1 : (i % a1 == 0) = true := beq_iff_eq.mpr hlt
      clear hlt
      go_enter Try.func83, Try.ntmps83
      go_wp2
      go_ret
      exact ⟨by simp [firstN, e1], Drawn0.refl _⟩
    · have e1 : (i % a1 == 0) = false := beq_eq_false_iff_ne.mpr hlt
      clear hlt
      go_enter Try.func83, Try.ntmps83
      go_wp2
      go_ret
      exact ⟨by simp [firstN, e1], Drawn0.refl _⟩

set_option maxHeartbeats 2000000 in
theorem need_last (i a0 a1 a3 : Int) (p q o : Nat) (W : World) (h3 : a3 = 1 ∨ a3 = 2) (h0 : 1 ≤ a0 ∧ a0 ≤ 30) (h1 : 1 ≤ a1 ∧ a1 ≤ 30) (hi : 0 ≤ i ∧ i ≤ 1000) (hp : W.cell? ⟨p, 0, none⟩ = some (.int .i64 a3)) (hq : W.cell? ⟨q, 0, none⟩ = some (.int .i64 a1)) (ho : W.cell? ⟨o, 0, none⟩ = some (.int .i64 a0)) :
    Calls Try.prog 84 #[.int .i64 i, .pointer (some ⟨p, 0, none⟩), .pointer (some ⟨q, 0, none⟩), .pointer (some ⟨o, 0, none⟩)] W fun e w' => e = .returned (.bool (lastN a0 a1 a3 i)) ∧ Drawn0 W w' := by
  obtain ⟨h0, h0'⟩ := h0
  obtain ⟨h1, h1'⟩ := h1
  obtain ⟨hi, hi'⟩ := hi
  have m0 : 0 ≤ i % a1 := Int.emod_nonneg _ (by omega)
  have m1 : i % a1 < a1 := Int.emod_lt_of_pos _ (by omega)
  obtain ⟨p0, p1⟩ := prod_bd h1 h1' (show -1 ≤ a0 - 1 by omega) (show a0 - 1 ≤ 1001 by omega)
  rcases h3 with rfl | rfl
  · by_cases hlt : a1 * (a0 - 1) ≤ i
    · have e1 : decide (a1 * (a0 - 1) ≤ i) = true := decide_eq_true hlt
      have H := Aside0.mk hlt
      go_enter Try.func84, Try.ntmps84
      go_wp2
      repeat (go_quiet (fail); try go_wp2)
      go_ret
      exact ⟨by simp [lastN, H.out], by repeat (first | exact Drawn0.refl _ | exact ⟨⟨_, rfl⟩⟩)⟩
    · have e1 : decide (a1 * (a0 - 1) ≤ i) = false := decide_eq_false hlt
      have H := Aside0.mk hlt
      have e2 : i < a1 * (a0 - 1) := by omega
      go_enter Try.func84, Try.ntmps84
      go_wp2
      repeat (go_quiet (fail); try go_wp2)
      go_ret
      exact ⟨by simp [lastN, H.out], by repeat (first | exact Drawn0.refl _ | exact ⟨⟨_, rfl⟩⟩)⟩
  · by_cases hlt : i % a1 = a1 - 1
    · have e1 : (i % a1 == a1 - 1) = true := beq_iff_eq.mpr hlt
      clear hlt
      go_enter Try.func84, Try.ntmps84
      go_wp2
      repeat (go_quiet (fail); try go_wp2)
      go_ret
      exact ⟨by simp [lastN, e1], by repeat (first | exact Drawn0.refl _ | exact ⟨⟨_, rfl⟩⟩)⟩
    · have e1 : (i % a1 == a1 - 1) = false := beq_eq_false_iff_ne.mpr hlt
      clear hlt
      go_enter Try.func84, Try.ntmps84
      go_wp2
      repeat (go_quiet (fail); try go_wp2)
      go_ret
      exact ⟨by simp [lastN, e1], by repeat (first | exact Drawn0.refl _ | exact ⟨⟨_, rfl⟩⟩)⟩

set_option maxHeartbeats 2000000 in
theorem need_cost (i a3 : Int) (A2 : Option Addr) (c2 : Nat) (b : List Int) (p q : Nat) (W : World) (hb : Kd.C (Kd.int .i64) W A2 b.length b) (h3 : a3 = 1 ∨ a3 = 2) (hi : 0 ≤ i ∧ i < b.length) (hp : W.cell? ⟨p, 0, none⟩ = some (.slice A2 b.length c2)) (hq : W.cell? ⟨q, 0, none⟩ = some (.int .i64 a3)) :
    Calls Try.prog 82 #[.int .i64 i, .pointer (some ⟨p, 0, none⟩), .pointer (some ⟨q, 0, none⟩)] W fun e w' => e = .returned (.int .i64 (costN b a3 i)) ∧ Drawn0 W w' := by
  obtain ⟨hi, hi'⟩ := hi
  obtain ⟨ad, e1, hx⟩ := Kd.at_int hb i hi hi'
  cases e1
  have hm := Kd.C_max hb
  clear hb
  unfold costN
  generalize rd b i = x at hx ⊢
  by_cases h1 : x = a3
  · subst h1
    go_enter Try.func82, Try.ntmps82
    go_wp2
    repeat (go_quiet (fail); try go_wp2)
    go_ret
    exact ⟨by simp, by repeat (first | exact Drawn0.refl _ | exact ⟨⟨_, rfl⟩⟩)⟩
  · have e1 : (x == a3) = false := beq_eq_false_iff_ne.mpr h1
    by_cases h2 : x = 0
    · subst h2
      go_enter Try.func82, Try.ntmps82
      go_wp2
      repeat (go_quiet (fail); try go_wp2)
      go_ret
      exact ⟨by simp [h1], by repeat (first | exact Drawn0.refl _ | exact ⟨⟨_, rfl⟩⟩)⟩
    · have e2 : (x == 0) = false := beq_eq_false_iff_ne.mpr h2
      go_enter Try.func82, Try.ntmps82
      go_wp2
      repeat (go_quiet (fail); try go_wp2)
      go_ret
      exact ⟨by simp [h1, h2], by repeat (first | exact Drawn0.refl _ | exact ⟨⟨_, rfl⟩⟩)⟩

/-! the walk -/
/-- The boxes of need's parameters, above what w had. -/
structure NB (w W : World) (p0 p1 p2 p3 g : Nat) (a0 a1 : Int) (A2 : Option Addr) (n c2 : Nat) (a3 : Int) : Prop where
  below : Below w.heap.size w W
  far : w.heap.size ≤ g ∧ p0 ≠ g ∧ p1 ≠ g ∧ p2 ≠ g ∧ p3 ≠ g
  b0 : W.heap[p0]? = some (.cells #[.int .i64 a0] 3 (0, 0))
  b1 : W.heap[p1]? = some (.cells #[.int .i64 a1] 3 (0, 0))
  b2 : W.heap[p2]? = some (.cells #[.slice A2 n c2] 24 (0, 0))
  b3 : W.heap[p3]? = some (.cells #[.int .i64 a3] 3 (0, 0))
section
variable {w W W' : World} {p0 p1 p2 p3 g : Nat} {a0 a1 : Int} {A2 : Option Addr} {n c2 : Nat} {a3 : Int}
theorem NB.step (h : NB w W p0 p1 p2 p3 g a0 a1 A2 n c2 a3) (hb : Below W.heap.size W W') : NB w W' p0 p1 p2 p3 g a0 a1 A2 n c2 a3 :=
  ⟨below_step h.below hb, h.far, (hb.block _ (blk_lt h.b0)).trans h.b0, (hb.block _ (blk_lt h.b1)).trans h.b1, (hb.block _ (blk_lt h.b2)).trans h.b2, (hb.block _ (blk_lt h.b3)).trans h.b3⟩
theorem NB.drewN (h : NB w W p0 p1 p2 p3 g a0 a1 A2 n c2 a3) (q : Nat) : NB w (W.drewN q) p0 p1 p2 p3 g a0 a1 A2 n c2 a3 := ⟨pw_below_drewN h.below q, h.far, h.b0, h.b1, h.b2, h.b3⟩
theorem NB.set (h : NB w W p0 p1 p2 p3 g a0 a1 A2 n c2 a3) (i : Nat) (v : Value) : NB w (W.setCell ⟨g, i, none⟩ v) p0 p1 p2 p3 g a0 a1 A2 n c2 a3 :=
  ⟨below_set h.below h.far.1, h.far, blk_far h.b0 h.far.2.1 v, blk_far h.b1 h.far.2.2.1 v, blk_far h.b2 h.far.2.2.2.1 v, blk_far h.b3 h.far.2.2.2.2 v⟩
theorem NB.c0 (h : NB w W p0 p1 p2 p3 g a0 a1 A2 n c2 a3) : W.cell? ⟨p0, 0, none⟩ = some (.int .i64 a0) := (blk_cell h.b0 0).trans rfl
theorem NB.c1 (h : NB w W p0 p1 p2 p3 g a0 a1 A2 n c2 a3) : W.cell? ⟨p1, 0, none⟩ = some (.int .i64 a1) := (blk_cell h.b1 0).trans rfl
theorem NB.c2' (h : NB w W p0 p1 p2 p3 g a0 a1 A2 n c2 a3) : W.cell? ⟨p2, 0, none⟩ = some (.slice A2 n c2) := (blk_cell h.b2 0).trans rfl
theorem NB.c3 (h : NB w W p0 p1 p2 p3 g a0 a1 A2 n c2 a3) : W.cell? ⟨p3, 0, none⟩ = some (.int .i64 a3) := (blk_cell h.b3 0).trans rfl
end
theorem al_new (W : World) (o : Obj) (n : Nat) (h : W.heap.size = n) : (W.alloc o).heap[n]? = some o := h ▸ heap_alloc_new W o
theorem al_old {W : World} {g : Nat} {x : Obj} (o : Obj) (h : W.heap[g]? = some x) : (W.alloc o).heap[g]? = some x := ((below_alloc (Below.refl _ _) o).block g (blk_lt h)).trans h
theorem RowI.step {W W' : World} {g : Nat} {l : List Int} (h : RowI W g l) (hb : Below W.heap.size W W') : RowI W' g l := (hb.block g (blk_lt h)).trans h
theorem RowI.drewN {W : World} {g : Nat} {l : List Int} (h : RowI W g l) (q : Nat) : RowI (W.drewN q) g l := h
theorem RowI.cell {W : World} {g : Nat} {l : List Int} (h : RowI W g l) (i : Int) (h0 : 0 ≤ i) (h1 : i < l.length) : W.cell? ⟨g, i.toNat, none⟩ = some (.int .i64 (rd l i)) := by
  rw [blk_cell h]
  unfold rd
  rw [List.getD_eq_getElem?_getD]
  have : i.toNat < l.length := by omega
  simp [this]
theorem RowI.set {W : World} {g : Nat} {l : List Int} (h : RowI W g l) (i : Nat) (v : Int) : RowI (W.setCell ⟨g, i, none⟩ (.int .i64 v)) g (l.set i v) := by
  have := blk_set h i (.int .i64 v)
  unfold RowI
  rw [this]
  simp [List.map_set]

set_option maxHeartbeats 8000000 in
set_option maxRecDepth 100000 in
theorem impl_need.calls (k : Nat) (a0 a1 : Int) (A2 : Option Addr) (c2 : Nat) (b : List Int) (a3 : Int) (r : Int) (w : World) (hr2 : Kd.C (Kd.int .i64) w A2 b.length b) (hc2 : b.length ≤ c2) (h : impl_need.f k a0 a1 b a3 = some r) :
    Calls Try.prog 62 #[.int .i64 a0, .int .i64 a1, .slice A2 b.length c2, .int .i64 a3] w fun e w' => e = .returned (.int .i64 r) ∧ Below w.heap.size w w' := by
  unfold impl_need.f at h
  by_cases hd : NDom a0 a1 b a3
  case neg => rw [if_neg hd] at h; cases h
  rw [if_pos hd] at h
  obtain ⟨fin, hit, ho⟩ := Option.bind_eq_some_iff.mp h
  have HIT := Aside0.mk hit
  have HO := Aside0.mk (Option.some.inj ho)
  clear h hit ho
  obtain ⟨⟨⟨r0, r1⟩, c0, c1⟩, ⟨hl, hl30⟩, h3⟩ := hd
  have HL := Aside0.mk hl
  have H3 := Aside0.mk h3
  have HB := Aside0.mk hr2
  have HC := Aside0.mk hc2
  have hl1 : 1 ≤ b.length := by
    have : 1 * 1 ≤ a0 * a1 := Int.mul_le_mul r0 c0 (by omega) (by omega)
    omega
  clear hr2 hc2 hl h3
  go_enter Try.func62, Try.ntmps62
  go_wp2_with fail
  have hN : NB w (((((w.alloc (.cells #[.int .i64 a0] 3)).alloc (.cells #[.int .i64 a1] 3)).alloc (.cells #[.slice A2 b.length c2] 24)).alloc (.cells #[.int .i64 a3] 3)).alloc (.cells #[.int .i64 1000] 3)) w.heap.size (w.heap.size + 1) (w.heap.size + 1 + 1) (w.heap.size + 1 + 1 + 1) (w.heap.size + 1 + 1 + 1 + 1 + 1) a0 a1 A2 b.length c2 a3 := by
    refine ⟨below_alloc (below_alloc (below_alloc (below_alloc (below_alloc (Below.refl _ _) _) _) _) _) _, by omega, ?_, ?_, ?_, ?_⟩
    · exact al_old _ (al_old _ (al_old _ (al_old _ (al_new _ _ _ rfl))))
    · exact al_old _ (al_old _ (al_old _ (al_new _ _ _ (by simp))))
    · exact al_old _ (al_old _ (al_new _ _ _ (by simp)))
    · exact al_old _ (al_new _ _ _ (by simp))
  have hx : Kd.C (Kd.int .i64) (((((w.alloc (.cells #[.int .i64 a0] 3)).alloc (.cells #[.int .i64 a1] 3)).alloc (.cells #[.slice A2 b.length c2] 24)).alloc (.cells #[.int .i64 a3] 3)).alloc (.cells #[.int .i64 1000] 3)) (some ⟨w.heap.size + 1 + 1 + 1 + 1, 0, none⟩) 1 [1000] := by
    have h1 : RowI (((((w.alloc (.cells #[.int .i64 a0] 3)).alloc (.cells #[.int .i64 a1] 3)).alloc (.cells #[.slice A2 b.length c2] 24)).alloc (.cells #[.int .i64 a3] 3)).alloc (.cells #[.int .i64 1000] 3)) (w.heap.size + 1 + 1 + 1 + 1) [1000] := by
      exact al_new _ _ _ (by simp)
    exact (Kd.R_reads' (R_block _ (w.heap.size + 1 + 1 + 1 + 1) _ [1000] (Nat.le_refl _) (by simp) h1)).2.2
  have hs : (((((w.alloc (.cells #[.int .i64 a0] 3)).alloc (.cells #[.int .i64 a1] 3)).alloc (.cells #[.slice A2 b.length c2] 24)).alloc (.cells #[.int .i64 a3] 3)).alloc (.cells #[.int .i64 1000] 3)).heap.size = w.heap.size + 1 + 1 + 1 + 1 + 1 := by simp
  generalize (((((w.alloc (.cells #[.int .i64 a0] 3)).alloc (.cells #[.int .i64 a1] 3)).alloc (.cells #[.slice A2 b.length c2] 24)).alloc (.cells #[.int .i64 a3] 3)).alloc (.cells #[.int .i64 1000] 3)) = W5 at hN hx hs ⊢
  rw [← hs] at hN
  clear hs
  generalize w.heap.size + 1 + 1 + 1 + 1 = p4 at hx ⊢
  generalize w.heap.size + 1 + 1 + 1 = p3 at hN ⊢
  generalize w.heap.size + 1 + 1 = p2 at hN ⊢
  generalize w.heap.size + 1 = p1 at hN ⊢
  obtain ⟨p0, hp0⟩ : ∃ p0, w.heap.size = p0 := ⟨_, rfl⟩
  have hN : NB w W5 p0 p1 p2 p3 W5.heap.size a0 a1 A2 b.length c2 a3 := by rw [← hp0]; exact hN
  rw [hp0]
  have HN := Aside0.mk hN
  have HX := Aside0.mk hx
  have HP0 := Aside0.mk hp0
  clear hN hx hp0
  refine (Repeat_one 1000 _ _ b.length _ HX.out hl1 hl30).mono ?_
  rintro e w6 ⟨rfl, HROW, HB6⟩
  have HN := Aside0.mk (HN.out.step HB6)
  have HROW := Aside0.mk HROW
  generalize W5.heap.size = g at HN HROW ⊢
  clear HB6
  go_wp2
  go_loopg [13] k (fun gg s13 wr => ∃ (m : Bool) (kit : Nat) (l : List Int), s13 = .bool m ∧ kit ≤ gg ∧ Aside0 (NB w wr p0 p1 p2 p3 g a0 a1 A2 b.length c2 a3) ∧ Aside0 (RowI wr g l) ∧ Aside0 (Bd l) ∧ Aside0 (l.length = b.length) ∧ Aside0 (if m then iterN a0 a1 b a3 kit l = some fin else l = fin))
  case atStart => exact ⟨true, k, _, rfl, Nat.le_refl _, HN, HROW, ⟨fun j => by unfold rd; rw [List.getD_eq_getElem?_getD, List.getElem?_replicate]; split <;> simp⟩, ⟨by simp⟩, ⟨HIT.out⟩⟩
  case round =>
    clear HN HROW
    obtain ⟨m, kit, l, rfl, hkit, HN, HROW, HBD, HLEN, HSTEP⟩ := hrel
    cases m with
    | false =>
      have HF : Aside0 (l = fin) := ⟨by simpa using HSTEP.out⟩
      clear HSTEP
      go_wp2
      go_loopg [19, 72] l.length (fun gg s19 s72 wo => ∃ ii q : Nat, ii ≤ l.length ∧ l.length - ii ≤ gg ∧ s19 = .int .i64 (outN a0 a1 a3 l ii) ∧ s72 = .int .i64 ii ∧ wo = wr.drewN q)
      case atStart => exact ⟨0, 0, Nat.zero_le _, by omega, rfl, rfl, rfl⟩
      case round =>
        obtain ⟨ii, q, hii, hg, rfl, rfl, rfl⟩ := hrel
        have hll := HLEN.out
        by_cases hlt : ii < l.length
        · have hltz : (ii : Int) < (b.length : Int) := by omega
          have i0 : 0 ≤ (ii : Int) := by omega
          have hx := (HROW.out.drewN q).cell ii i0 (by omega)
          simp only [Int.toNat_natCast] at hx
          have hout : Aside0 (outN a0 a1 a3 l (ii + 1) = if lastN a0 a1 a3 ii then min (outN a0 a1 a3 l ii) (rd l ii) else outN a0 a1 a3 l ii) := ⟨rfl⟩
          have hcall := Aside0.mk (fun W (h : NB w W p0 p1 p2 p3 g a0 a1 A2 b.length c2 a3) => need_last ii a0 a1 a3 p3 p1 p0 W H3.out ⟨r0, r1⟩ ⟨c0, c1⟩ ⟨i0, by omega⟩ h.c3 h.c1 h.c0)
          generalize outN a0 a1 a3 l ii = o at hout ⊢
          generalize rd l ii = x at hx hout
          generalize lastN a0 a1 a3 ii = bl at hout hcall
          clear hll
          cases bl with
          | false =>
            simp only [Bool.false_eq_true, if_false] at hout
            go_wp2_with fail
            refine (hcall.out _ (HN.out.drewN _)).mono ?_
            rintro e w' ⟨rfl, ⟨q', rfl⟩⟩
            go_wp2_with fail
            go_roundg (l.length - (ii + 1))
            case measure => omega
            case rel => exact ⟨ii + 1, _, by omega, by omega, by rw [hout.out], by go_num, by first | rfl | exact World.drewN_drewN _ _ _⟩
          | true =>
            simp only [if_true] at hout
            go_wp2_with fail
            refine (hcall.out _ (HN.out.drewN _)).mono ?_
            rintro e w' ⟨rfl, ⟨q', rfl⟩⟩
            go_wp2_with fail
            go_roundg (l.length - (ii + 1))
            case measure => omega
            case rel => exact ⟨ii + 1, _, by omega, by omega, by rw [hout.out], by go_num, by first | rfl | exact World.drewN_drewN _ _ _⟩
        · have hltz : ¬ (ii : Int) < (b.length : Int) := by omega
          obtain rfl : ii = l.length := by omega
          have HO' : Aside0 (outN a0 a1 a3 l l.length = r) := ⟨by rw [HF.out]; exact HO.out⟩
          clear hll
          rw [HO'.out]
          go_wp2
          go_ret
          exact ⟨rfl, pw_below_drewN HN.out.below _⟩
    | true =>
      have HS : Aside0 (iterN a0 a1 b a3 kit l = some fin) := ⟨by simpa using HSTEP.out⟩
      clear HSTEP
      cases kit with
      | zero => exact absurd HS.out (by simp [iterN])
      | succ kit =>
        have hs := HS.out
        clear HS
        unfold iterN at hs
        obtain ⟨PR, hPR⟩ : ∃ P, passN a0 a1 b a3 b.length l false 0 = P := ⟨_, rfl⟩
        rw [hPR] at hs
        have HS := Aside0.mk hs
        have HPR := Aside0.mk hPR
        clear hs hPR
        have hb2 := HN.out.c2'
        go_wp2
        go_loopg [13, 32] b.length (fun gg s13 s32 wp => ∃ (m : Bool) (ii : Nat) (l : List Int), s13 = .bool m ∧ s32 = .int .i64 ii ∧ ii ≤ b.length ∧ b.length - ii ≤ gg ∧ Aside0 (NB w wp p0 p1 p2 p3 g a0 a1 A2 b.length c2 a3) ∧ Aside0 (RowI wp g l) ∧ Aside0 (Bd l) ∧ Aside0 (l.length = b.length) ∧ Aside0 (passN a0 a1 b a3 (b.length - ii) l m ii = PR))
        case atStart => exact ⟨false, 0, l, rfl, rfl, Nat.zero_le _, by omega, HN, HROW, HBD, HLEN, ⟨HPR.out⟩⟩
        case round =>
          clear HN HROW HBD HLEN HPR hb2
          obtain ⟨m, ii, l, rfl, rfl, hii, hg, HN, HROW, HBD, HLEN, HP⟩ := hrel
          by_cases hlt : ii < b.length
          · have hltz : (ii : Int) < (b.length : Int) := by omega
            have i0 : 0 ≤ (ii : Int) := by omega
            have hp := HP.out
            rw [show b.length - ii = (b.length - (ii + 1)) + 1 by omega] at hp
            unfold passN at hp
            have HP := Aside0.mk hp
            clear hp
            have hf := Aside0.mk (fun W (h : NB w W p0 p1 p2 p3 g a0 a1 A2 b.length c2 a3) => need_first ii a1 a3 p3 p1 W H3.out ⟨c0, c1⟩ ⟨i0, by omega⟩ h.c3 h.c1)
            have hcst := Aside0.mk (fun W (h : NB w W p0 p1 p2 p3 g a0 a1 A2 b.length c2 a3) => need_cost ii a3 A2 c2 b p2 p3 W (Kd.C_below HB.out h.below) H3.out ⟨i0, hltz⟩ h.c2' h.c3)
            have hnew := Aside0.mk (show newN a0 a1 b a3 l ii = leastN l (hexL a0 a1 ii 6) (if firstN a1 a3 ii then 0 else 1000) + costN b a3 ii from rfl)
            have hcb := costN_bd b a3 ii
            have hrl : Aside0 (relL a0 a1 b a3 l ii = if newN a0 a1 b a3 l ii < rd l ii then l.set (ii : Int).toNat (newN a0 a1 b a3 l ii) else l) := ⟨rfl⟩
            have hrb : Aside0 (relB a0 a1 b a3 l ii = decide (newN a0 a1 b a3 l ii < rd l ii)) := ⟨rfl⟩
            have hrd := HBD.out ii
            have HBD' := Aside0.mk (relL_bd HBD.out a0 a1 b a3 ii i0 (by rw [HLEN.out]; exact hltz))
            have HLEN' := Aside0.mk ((relL_len a0 a1 b a3 l ii).trans HLEN.out)
            have hxn : Aside0 (impl_hexNear.f a0 a1 ii = some (hexL a0 a1 ii 6)) := ⟨by unfold impl_hexNear.f; rw [if_pos]; exact ⟨⟨r0, r1⟩, ⟨c0, c1⟩, i0, by omega⟩⟩
            have hjs : Aside0 (∀ j, j ∈ hexL a0 a1 ii 6 → 0 ≤ j ∧ j < (l.length : Int)) := ⟨fun j hj => by have := hexL_mem c0 6 j hj; rw [HLEN.out, HL.out]; exact this⟩
            generalize newN a0 a1 b a3 l ii = nn at hnew hrl hrb
            generalize relL a0 a1 b a3 l ii = rl at hrl HBD' HLEN' HP
            generalize relB a0 a1 b a3 l ii = rb at hrb HP
            generalize costN b a3 ii = cc at hcst hcb hnew
            generalize hexL a0 a1 ii 6 = js at hnew hxn hjs
            obtain ⟨x0, hx0⟩ : ∃ x0 : Int, (if firstN a1 a3 ii then (0 : Int) else 1000) = x0 := ⟨_, rfl⟩
            have hx0b : 0 ≤ x0 ∧ x0 ≤ 1000 := by rw [← hx0]; split <;> omega
            have HX0 := Aside0.mk hx0
            have hnew := Aside0.mk (hnew.out.trans (by rw [hx0]))
            clear hx0
            go_wp2_with fail
            refine (hf.out _ HN.out).mono ?_
            rintro e w' ⟨rfl, ⟨q1, rfl⟩⟩
            have HN := Aside0.mk (HN.out.drewN q1)
            have HROW := Aside0.mk (HROW.out.drewN q1)
            have k0 := HN.out.c0
            have k1 := HN.out.c1
            generalize wr.drewN q1 = wq at HN HROW k0 k1 ⊢
            generalize firstN a1 a3 ii = fb at HX0 ⊢
            clear hf
            go_upto_if 37 with (fail)
            go_cut [15] (fun v15 wc => v15 = .int .i64 x0 ∧ wc = wq)
            case first =>
              cases fb with
              | false =>
                have hz : (1000 : Int) = x0 := by simpa using HX0.out
                have HZ := Aside0.mk hz
                clear hz
                go_wp2_with fail
                go_meet
                exact ⟨by rw [← HZ.out], rfl⟩
              | true =>
                have hz : (0 : Int) = x0 := by simpa using HX0.out
                have HZ := Aside0.mk hz
                clear hz
                go_wp2_with fail
                go_meet
                exact ⟨by rw [← HZ.out], rfl⟩
            case rest =>
              obtain ⟨rfl, rfl⟩ := hcut
              clear HX0
              go_wp2_with fail
              refine (impl_hexNear.calls _ _ _ js _ hxn.out).mono ?_
              rintro e w7 ⟨vj, rfl, RJ, B7⟩
              have HN := Aside0.mk (HN.out.step B7)
              have HROW := Aside0.mk (HROW.out.step B7)
              obtain ⟨Aj, cj, rfl⟩ := Kd.R_slice RJ
              have CJ := Aside0.mk (Kd.R_reads' RJ).2.2
              have hmj := Kd.C_max CJ.out
              clear RJ B7 k0 k1 hxn
              go_wp2
              go_loopg [15, 43] js.length (fun gg s15 s43 wj => ∃ (x : Int) (jj q : Nat), s15 = .int .i64 x ∧ s43 = .int .i64 jj ∧ jj ≤ js.length ∧ js.length - jj ≤ gg ∧ wj = w7.drewN q ∧ Aside0 (leastN l (js.drop jj) x = leastN l js x0) ∧ (0 ≤ x ∧ x ≤ 1000))
              case atStart => exact ⟨x0, 0, 0, rfl, rfl, Nat.zero_le _, by omega, rfl, ⟨rfl⟩, hx0b⟩
              case round =>
                obtain ⟨x, jj, q, rfl, rfl, hjj, hgj, rfl, HLE, hxb⟩ := hrel
                by_cases hlj : jj < js.length
                · have hljz : (jj : Int) < (js.length : Int) := by omega
                  have j0 : 0 ≤ (jj : Int) := by omega
                  obtain ⟨adj, e1, hxj⟩ := Kd.at_int (Kd.C_drewN CJ.out q) jj j0 hljz
                  cases e1
                  simp only [Int.toNat_natCast] at hxj
                  have hle := HLE.out
                  have hrdj : rd js jj = js[jj] := by unfold rd; rw [List.getD_eq_getElem?_getD, Int.toNat_natCast, List.getElem?_eq_getElem hlj]; rfl
                  rw [List.drop_eq_getElem_cons hlj, ← hrdj, leastN_cons] at hle
                  have hjm := hjs.out (rd js jj) (by rw [hrdj]; exact List.getElem_mem hlj)
                  have HLE := Aside0.mk hle
                  clear hle hrdj
                  generalize rd js jj = j at hxj hjm HLE
                  obtain ⟨jm0, jm1⟩ := hjm
                  have hfar := (HROW.out.drewN q).cell j jm0 jm1
                  have hrj := HBD.out j
                  have JL := Aside0.mk (show j < (b.length : Int) by rw [← HLEN.out]; exact jm1)
                  have jm2 : j < (b.length : Int) := JL.out
                  clear jm1
                  generalize rd l j = y at hfar HLE hrj
                  go_wp2
                  repeat (go_quiet (fail); try go_wp2)
                  go_roundg (js.length - (jj + 1))
                  case measure => omega
                  case rel => exact ⟨min x y, jj + 1, _, by first | rfl | go_num, by go_num, by omega, by omega, by first | rfl | exact World.drewN_drewN _ _ _, HLE, by omega⟩
                · have hljz : ¬ (jj : Int) < (js.length : Int) := by omega
                  obtain rfl : jj = js.length := by omega
                  have hle := HLE.out
                  rw [List.drop_length, leastN_nil] at hle
                  have hnn := hnew.out
                  rw [← hle] at hnn
                  have HNN := Aside0.mk hnn
                  clear hle hnn
                  go_wp2_with fail
                  refine (hcst.out _ (HN.out.drewN _)).mono ?_
                  rintro e w8 ⟨rfl, ⟨q8, rfl⟩⟩
                  have HN := Aside0.mk ((HN.out.drewN q).drewN q8)
                  have HROW := Aside0.mk ((HROW.out.drewN q).drewN q8)
                  generalize (w7.drewN q).drewN q8 = wz at HN HROW ⊢
                  have hnb : nn = x + cc := HNN.out
                  have HNB := Aside0.mk hnb
                  clear hnb
                  have hfar := HROW.out.cell ii i0 (by rw [HLEN.out]; exact hltz)
                  simp only [Int.toNat_natCast] at hfar
                  have hfz : wz.frozen? ⟨g, ii, none⟩ = false := blk_frozen HROW.out _
                  generalize rd l ii = y at hfar hrl hrb hrd
                  by_cases hlo : x + cc < y
                  · have HRL : Aside0 (rl = l.set ii (x + cc)) := ⟨by have := hrl.out; rw [HNB.out, if_pos hlo, Int.toNat_natCast] at this; exact this⟩
                    have HRB : Aside0 (rb = true) := ⟨by rw [hrb.out, HNB.out]; simpa using hlo⟩
                    go_wp2_with fail
                    go_roundg (b.length - (ii + 1))
                    case measure => omega
                    case rel => exact ⟨true, ii + 1, rl, rfl, by go_num, by omega, by omega, ⟨HN.out.set ii _⟩, ⟨by rw [HRL.out]; exact HROW.out.set ii _⟩, HBD', HLEN', ⟨by rw [← HP.out, HRB.out, Bool.or_true]⟩⟩
                  · have HRL : Aside0 (rl = l) := ⟨by have := hrl.out; rw [HNB.out, if_neg hlo] at this; exact this⟩
                    have HRB : Aside0 (rb = false) := ⟨by rw [hrb.out, HNB.out]; simpa using hlo⟩
                    go_wp2_with fail
                    repeat (go_quiet (fail); try go_wp2)
                    go_roundg (b.length - (ii + 1))
                    case measure => omega
                    case rel => exact ⟨m, ii + 1, l, rfl, by go_num, by omega, by omega, HN, HROW, HBD, HLEN, ⟨by rw [← HP.out, HRL.out, HRB.out, Bool.or_false]⟩⟩
          · have hltz : ¬ (ii : Int) < (b.length : Int) := by omega
            obtain rfl : ii = b.length := by omega
            have hp := HP.out
            rw [Nat.sub_self] at hp
            unfold passN at hp
            obtain rfl := hp
            have hs := HS.out
            go_wp2_with fail
            go_roundg kit
            case measure => omega
            case rel => exact ⟨m, kit, l, rfl, Nat.le_refl _, HN, HROW, HBD, HLEN, ⟨by cases m <;> simpa using hs⟩⟩
end Go.Proofs.Ytenaefpbjblmbaa.Given
