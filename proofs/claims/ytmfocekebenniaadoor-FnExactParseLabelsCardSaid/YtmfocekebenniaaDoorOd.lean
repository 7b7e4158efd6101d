/- impl.boardText by hand; for all boards that the number of columns divides, at most 1000 numbers. -/
import Derived.Test.YtmfocekebenniaaDoorOc
import Derived.Test.YtmfocekebenniaaDoorOs
import Derived.Shelf.RegionOpen
namespace Go.Proofs.YtmfocekebenniaaDoor.Given
open Go.Proofs.YtmfocekebenniaaDoor.Q Go.RowKit Go.Shelf Go.Proofs.YtmfocekebenniaaDoorW.PrintWords Go.Proofs.YtmfocekebenniaaDoorW.PrintLast Go.Proofs.YtmfocekebenniaaDoorW.PrintMore
set_option linter.unusedVariables false
set_option linter.unusedSimpArgs false
attribute [local go_sem] Oper.semAt_some
def rowT (r : List Int) : ByteArray := strOfNums (r.map fun x => (wrap64 (48 + x)) % 256)
def joinT (l : List Int) (C N : Nat) : List ByteArray := (List.range N).map fun j => rowT ((l.drop (j * C)).take C)
theorem digits_l0 (l : List Int) (hm : l.length ≤ 1000) (d : Nat) : ∀ (i k : Nat), i + d = l.length → d < k → impl_digitsText.l0 k ((l.take i).map fun x => (wrap64 (48 + x)) % 256) l (l.length : Int) (i : Int) = some (rowT l) := by
  induction d with
  | zero =>
    intro i k hi hk
    obtain ⟨k, rfl⟩ : ∃ m, k = m + 1 := ⟨k - 1, by omega⟩
    rw [impl_digitsText.l0, if_neg (by omega), List.take_of_length_le (by omega)]
    rfl
  | succ d ih =>
    intro i k hi hk
    obtain ⟨k, rfl⟩ : ∃ m, k = m + 1 := ⟨k - 1, by omega⟩
    have hil : i < l.length := by omega
    have he : rd l (i : Nat) = l[i] := by unfold rd; rw [List.getD_eq_getElem?_getD, Int.toNat_natCast, List.getElem?_eq_getElem hil]; rfl
    have h1 := ih (i + 1) k (by omega) (by omega)
    rw [List.take_succ_eq_append_getElem hil, List.map_append, List.map_singleton] at h1
    rw [impl_digitsText.l0, if_pos (by omega), if_pos (by omega), if_pos (by omega), if_pos (by simp; omega), he, show wrap64 ((i : Int) + 1) = ((i + 1 : Nat) : Int) by unfold wrap64; omega]
    exact h1
theorem digits_f (l : List Int) (hm : l.length ≤ 1000) (k : Nat) (hk : l.length < k) : impl_digitsText.f k l = some (rowT l) := by
  have h := digits_l0 l hm l.length 0 k (by omega) hk
  unfold impl_digitsText.f
  simpa using h
def impl_boardText.f (a0 : Int) (l1 : List Int) : Option ByteArray := if 1 ≤ a0 ∧ a0 ≤ 30 ∧ 0 < l1.length ∧ l1.length ≤ 1000 ∧ l1.length % a0.toNat = 0 then some ⟨(Lib.join ((joinT l1 a0.toNat (l1.length / a0.toNat)).map (·.data.toList)) [47]).toArray⟩ else none
theorem infoStr : (Tryd.prog.info? 9).map (fun i => (i.zero, i.size, i.bytes)) = some (some (.string ⟨#[]⟩), 1, 16) := by kernel_rfl
set_option maxHeartbeats 1000000 in
theorem chunk_in (F : Fence) (n : Nat) (h5 : F.fn 37) (hro : F.round = none) (a : Option Addr) (len cap C : Nat) (hC : 1 ≤ C) (w : World) :
    CallsIn F n Tryd.prog 37 #[.slice a len cap, .int .i64 C] w fun e w' => e = .returned (.func (.func 55) #[] #[.pointer (some ⟨w.heap.size, 0, none⟩), .pointer (some ⟨w.heap.size + 1, 0, none⟩)]) ∧ w' = (w.alloc (.cells #[.slice a len cap] 22)).alloc (.cells #[.int .i64 C] 3) := by
  refine callsIn_of_wp Tryd.func37 rfl h5 ?_ hro
  simp only [Tryd.ntmps37, List.size_toArray, List.length_cons, List.length_nil, Nat.reduceAdd, Nat.reduceSub, Array.replicate_succ, Array.replicate_zero, List.push_toArray, List.append_toArray, List.nil_append, List.cons_append]
  have hC1 : ¬ ((C : Int) < 1) := by omega
  gi_wp2
  go_ret
  exact ⟨rfl, rfl⟩
theorem addr_none {w : World} {l : List Int} {A1 : Option Addr} (hr1 : Kd.C (Kd.int .i64) w A1 l.length l) (h : 0 < l.length) : ∃ b off, A1 = some ⟨b, off, none⟩ ∧ b < w.heap.size ∧ ∀ j, j < l.length → w.cell? ⟨b, off + j, none⟩ = some (.int .i64 (rd l (j : Nat))) := by
  have hcell : ∀ j, j < l.length → ∃ ad, A1 = some ad ∧ w.cell? (ad.add j) = some (.int .i64 (rd l (j : Nat))) := by
    intro j hj
    obtain ⟨ad, c, e, _, hK, hc0⟩ := Kd.C_get hr1 (0 : Int) (j : Int) (by omega) (by omega)
    refine ⟨ad, e, ?_⟩
    have hc : ∀ i u, c[i]? = some u → w.cell? (ad.add ((j : Int).toNat * 1 + i)) = some u := hc0
    have hk : c = [.int .i64 (l.getD (j : Int).toNat 0)] := hK
    rw [hk] at hc
    have h1 := hc 0 _ rfl
    rw [Int.toNat_natCast, Nat.mul_one, Nat.add_zero] at h1
    rw [h1]
    unfold rd
    rw [Int.toNat_natCast]
  obtain ⟨⟨b, off, sp⟩, rfl, h0⟩ := hcell 0 h
  have hsp : sp = none := by
    cases sp with
    | none => rfl
    | some x =>
      exfalso
      simp [Addr.add, World.cell?] at h0
      split at h0 <;> simp at h0
  subst hsp
  refine ⟨b, off, rfl, ?_, fun j hj => ?_⟩
  · have h9 := World.block_lt_of_cell? w _ h0
    simpa [Addr.add] using h9
  · obtain ⟨ad, e, hc⟩ := hcell j hj
    cases e
    have : (⟨b, off, none⟩ : Addr).add j = ⟨b, off + j, none⟩ := by by_cases h : j = 0 <;> simp [Addr.add, h]
    rwa [this] at hc
/-- append at a box's row, inside a fence, as a step of a region. -/
theorem stepIn_append {F : Fence} {n : Nat} {P : Program} (w : World) {ops : Array Oper} {o : Oper} {a : Act} {Q : Exit → Act → World → Prop} {K : Act → World → Prop}
    (hg : o.guard = none) (s x : Operand) (t : TypeId) (hop : o.op = Op.call { callee := Callee.builtin Builtin.append, args := #[s, x], argTypes := #[t, t] })
    (base : Nat) (e : TypeId) (i : TypeInfo) (z : Value) (size bytes : Nat) (h1 : P.underlying t = some (.slice e)) (h2 : P.info? e = some i) (h3 : i.zero = some z) (h4 : i.size = size) (h5 : i.bytes = bytes) (h6 : z.cells.size = size) (h7 : 0 < size)
    (v : Value) (k : Nat) (xs : List Value) (hs : a.eval s = v) (hown : w.ownsRow base e size v k xs) (ad : Addr) (m c : Nat) (news : List Value) (hx : a.eval x = .slice (some ad) m c) (hn : news.length = m * size)
    (hc : ∀ j u, news[j]? = some u → w.cell? (ad.add j) = some u) (h1c : ∀ u ∈ news, u.oneCell' = true) (b1 : k + m ≤ maxLen) (b2 : (k + m) * bytes ≤ 140737488355328) (b3 : base ≤ w.heap.size)
    (hK : ∀ v' w', w'.ownsRow base e size v' (k + m) (xs ++ news) → w.grownBy w' v.ownBlock → K (a.put o.dst v') w') :
    if Region.wanted o (yielded ops a.tmps) = true then Oper.wpIn F n P o a w K Q else (∀ f, o.about P w a.eval = some f → F.fn f) ∧ K (a.put o.dst undef) w := by
  rw [if_pos (by simp [Region.wanted, hg])]
  obtain ⟨v', w', hrun, r1, r2, r3⟩ := run_append_own (P := P) w base t o.type e i z size bytes h1 h2 h3 h4 h5 h6 h7 v k xs hown ad m c news hn hc h1c b1 b2 b3
  unfold Oper.wpIn
  refine ⟨?_, ?_⟩
  · simp [Oper.about, hop, resolve, Target.leads, Sem.run_pure]
  · rw [Oper.semAt_plain F _ _ (by rw [hop]; intro c hc'; cases hc')]
    simp [execOp, hop, resolve, invoke, builtin, hs, hx, hrun, Result.andThen]
    exact hK v' w' r1 r2
theorem round_call {W w2 : World} (h : Below W.drew.heap.size W.drew w2) : Below W.heap.size W w2 := ⟨h.os, h.tape, h.output, h.size, h.block⟩
theorem _root_.Go.Boxed.below {W W2 : World} {B : Nat} {t : TypeId} {v : Value} (h : Boxed W B t v) (hb : Below W.heap.size W W2) : Boxed W2 B t v := (hb.block B h.lt).trans h
theorem own_below {W W2 : World} {base : Nat} {e : TypeId} {size n : Nat} {v : Value} {xs : List Value} (h : W.ownsRow base e size v n xs) (hb : Below W.heap.size W W2) : W2.ownsRow base e size v n xs :=
  own_move h (fun k hk => hb.block k (own_lt h k hk))
/-- Behind a round's append and store. -/
theorem round_fin {w W W2 w3 : World} {z n k : Nat} {v v' u1 u2 : Value} {xs ys : List Value} {t1 t2 t3 e : TypeId} {tmp : Obj} (S : Nat)
    (hv : Boxed W (z + 1) t1 v) (hrow : W.ownsRow z e 1 v n xs) (hS : Boxed W (z + 1 + 1) t2 u1) (hC : Boxed W (z + 1 + 1 + 1) t3 u2) (hB : Below z w W) (hb : Below W.heap.size W W2) (h1 : t1 ≠ e) (h2 : t2 ≠ e) (h3 : t3 ≠ e)
    (hown : w3.ownsRow z e 1 v' k ys) (hgrow : (W2.alloc tmp).grownBy w3 v.ownBlock) :
    Boxed w3 (z + 1) t1 v ∧ (KeepsFrom S W (w3.setCell ⟨z + 1, 0, none⟩ v') ∧ KpC z (z + 1 + 1) (z + 1 + 1 + 1) W (w3.setCell ⟨z + 1, 0, none⟩ v') ∧ Boxed (w3.setCell ⟨z + 1, 0, none⟩ v') (z + 1) t1 v' ∧ (w3.setCell ⟨z + 1, 0, none⟩ v').ownsRow z e 1 v' k ys ∧ Boxed (w3.setCell ⟨z + 1, 0, none⟩ v') (z + 1 + 1) t2 u1 ∧ Boxed (w3.setCell ⟨z + 1, 0, none⟩ v') (z + 1 + 1 + 1) t3 u2 ∧ Below z w (w3.setCell ⟨z + 1, 0, none⟩ v')) := by
  have hz : z ≤ W.heap.size := by have := hv.lt; omega
  have r2 := own_below hrow hb
  obtain ⟨a1, a2, a3, a4, a5⟩ := (hv.below hb).appended h1 r2 (Nat.le_trans hz hb.size) (Nat.le_succ z) hown hgrow
  have bS : Boxed (w3.setCell ⟨z + 1, 0, none⟩ v') (z + 1 + 1) t2 u1 := (((hS.below hb).alloc tmp).kept hgrow ((hS.below hb).not_row h2 r2)).other (by omega) _
  have bC : Boxed (w3.setCell ⟨z + 1, 0, none⟩ v') (z + 1 + 1 + 1) t3 u2 := (((hC.below hb).alloc tmp).kept hgrow ((hC.below hb).not_row h3 r2)).other (by omega) _
  have k0 : KeepsOthers W W2 := ⟨hb.size, fun k o h _ => (hb.block k (blk_lt h)).trans h⟩
  have hbz : Below z W W2 := hb.mono hz
  exact ⟨a1, (k0.trans a4).from S, ⟨hbz.trans a5, (show _ = _ from bS).trans (show _ = _ from hS).symm, (show _ = _ from bC).trans (show _ = _ from hC).symm⟩, a2, a3, bS, bC, hB.trans (hbz.trans a5)⟩
theorem digits_call2 (b o n c : Nat) (r : List Int) (hn : r.length = n) (hm : n ≤ 1000) (hc : n ≤ c) (W : World) (hr : Kd.C (Kd.int .i64) W (some ⟨b, o, none⟩) n r) :
    Calls Tryd.prog 38 #[.slice (some ⟨b, o, none⟩) n c] W fun e w' => e = .returned (.string (rowT r)) ∧ Below W.heap.size W w' := by
  subst hn
  exact impl_digitsText.calls 2000 _ c r (rowT r) W hr hc (digits_f r hm 2000 (by omega))
theorem digits_call (b o n : Nat) (r : List Int) (hn : r.length = n) (hm : n ≤ 1000) (W : World) (hr : Kd.C (Kd.int .i64) W (some ⟨b, o, none⟩) n r) :
    Calls Tryd.prog 38 #[.slice (some ⟨b, o, none⟩) n n] W fun e w' => e = .returned (.string (rowT r)) ∧ Below W.heap.size W w' := digits_call2 b o n n r hn hm (Nat.le_refl _) W hr
theorem sub_row {W : World} {b off len : Nat} {l : List Int} (hc : ∀ j, j < len → W.cell? ⟨b, off + j, none⟩ = some (.int .i64 (rd l (j : Nat)))) (hl : l.length = len) (hm : len ≤ 1000) (m C : Nat) (h : m + C ≤ len) : ((l.drop m).take C).length = C ∧ Kd.C (Kd.int .i64) W (some ⟨b, off + m, none⟩) C ((l.drop m).take C) := by
  have hlen : ((l.drop m).take C).length = C := by simp; omega
  refine ⟨hlen, hlen, by omega, fun _ => ⟨_, rfl, fun j p hj => ⟨[.int .i64 p], rfl, rfl, fun i u hu => ?_⟩⟩⟩
  have hjC : j < C := by
    rcases Nat.lt_or_ge j C with h' | h'
    · exact h'
    · rw [List.getElem?_eq_none (by omega)] at hj; cases hj
  match i, hu with
  | 0, hu =>
    cases hu
    have e1 : ∀ a : Nat, (⟨b, off + m, none⟩ : Addr).add a = ⟨b, off + m + a, none⟩ := fun a => by by_cases h : a = 0 <;> simp [Addr.add, h]
    have e2 : j * (Kd.int .i64).sz + 0 = j := Nat.mul_one j
    rw [e2, e1, Nat.add_assoc, hc (m + j) (by omega)]
    rw [List.getElem?_take, if_pos hjC, List.getElem?_drop] at hj
    unfold rd
    rw [Int.toNat_natCast, List.getD_eq_getElem?_getD, hj]
    rfl
  | i + 1, hu => simp at hu
theorem row_cells {W : World} {base n : Nat} {e : TypeId} {v : Value} {xs : List Value} (h : W.ownsRow base e 1 v n xs) (hn : 0 < n) : ∃ bk cap, v = .slice (some ⟨bk, 0, none⟩) n cap ∧ bk < W.heap.size ∧ n ≤ cap ∧ ∀ j u, xs[j]? = some u → W.cell? ⟨bk, 0 + j, none⟩ = some u := by
  obtain ⟨g, cap, rfl, _, hl⟩ := h.form hn
  refine ⟨g, cap, rfl, hl, ?_, fun j u hu => ?_⟩
  · rcases h.2 with ⟨_, h0⟩ | ⟨g', cap', cur, he, _, _, hc, _⟩
    · omega
    · cases he; exact hc
  · have hj : j < n * 1 := by
      rcases Nat.lt_or_ge j (n * 1) with h' | h'
      · exact h'
      · rw [List.getElem?_eq_none (by rw [h.1]; exact h')] at hu; cases hu
    rw [Nat.zero_add, h.cellAt j hj]
    exact hu
theorem rowT_len (r : List Int) (h : r.length ≤ 1000) : (rowT r).data.toList.length ≤ 1000 := by
  unfold rowT
  simp [strOfNums]
  omega
theorem lens_le (xs : List (List UInt8)) (h : ∀ x ∈ xs, x.length ≤ 1000) : Lib.lens xs ≤ 1000 * xs.length := by
  induction xs with
  | nil => simp [Lib.lens]
  | cons y t ih =>
    have h1 := h y (by simp)
    have h2 := ih (fun x hx => h x (by simp [hx]))
    simp only [Lib.lens, List.map_cons, List.sum_cons, List.length_cons] at h2 ⊢
    omega
theorem join_len {xs : List ByteArray} (h : ∀ x ∈ xs, x.data.toList.length ≤ 1000) (hn : xs.length ≤ 1000) : (Lib.join (xs.map (·.data.toList)) [47]).length ≤ 140737488355328 := by
  match xs, h, hn with
  | [], _, _ => simp [Lib.join_nil]
  | x :: r, h, hn =>
    rw [List.map_cons, Lib.join_cons, List.length_append, Lib.joinTail_length]
    have h1 := h x (by simp)
    have h2 := lens_le (r.map (·.data.toList)) (fun y hy => by
      obtain ⟨z, hz, rfl⟩ := List.mem_map.mp hy
      exact h z (by simp [hz]))
    simp only [List.length_map, List.length_cons, List.length_nil] at *
    omega
theorem join_call (bk cap n : Nat) (xs : List ByteArray) (hn : xs.length = n) (hcap : n ≤ cap) (W : World) (hb : bk < W.heap.size) (hc : ∀ (j : Nat) x, xs[j]? = some x → W.cell? ⟨bk, 0 + j, none⟩ = some (.string x)) (r : ByteArray) (hr : (⟨(Lib.join (xs.map (·.data.toList)) [47]).toArray⟩ : ByteArray) = r) (hm : n ≤ 1000) (hlen : (Lib.join (xs.map (·.data.toList)) [47]).length ≤ 140737488355328) :
    Calls Tryd.prog 39 #[.slice (some ⟨bk, 0, none⟩) n cap, .string ⟨#[47]⟩] W fun e w' => e = .returned (.string r) ∧ Below W.heap.size W w' := by
  subst hn
  subst hr
  exact Tryd.strings_Join bk 0 cap xs ⟨#[47]⟩ W hc hb (by omega) hcap hlen
set_option maxRecDepth 100000 in
set_option maxHeartbeats 4000000 in
theorem impl_boardText.calls (a0 : Int) (A1 : Option Addr) (c1 : Nat) (l1 : List Int) (r : ByteArray) (w : World) (hr1 : Kd.C (Kd.int .i64) w A1 l1.length l1) (hc1 : l1.length ≤ c1) (h : impl_boardText.f a0 l1 = some r) :
    Calls Tryd.prog 20 #[.int .i64 a0, .slice A1 l1.length c1] w fun e w' => e = .returned (.string r) ∧ Below w.heap.size w w' := by
  unfold impl_boardText.f at h
  split at h
  case isFalse => cases h
  rename_i hcond
  obtain ⟨k1, k2, k3, k4, k5⟩ := hcond
  injection h with h
  obtain ⟨C, rfl⟩ := Int.eq_ofNat_of_zero_le (show 0 ≤ a0 by omega)
  rw [Int.toNat_natCast] at h k5
  obtain ⟨b, off, rfl, hb, hcells⟩ := addr_none hr1 k3
  have hlen : l1.length = l1.length / C * C := (Nat.div_mul_cancel (Nat.dvd_of_mod_eq_zero k5)).symm
  generalize l1.length / C = N at h hlen
  obtain ⟨len, hlenl⟩ : ∃ len, len = l1.length := ⟨_, rfl⟩
  rw [← hlenl] at hlen hcells k3 k4 hc1 ⊢
  have HR := Aside0.mk hr1
  have HL := Aside0.mk hlenl
  have HN := Aside0.mk hlen
  have HH := Aside0.mk h
  clear hr1 hlenl h k5
  refine (callsIn_wide (n := 6)).1 ?_
  refine callsIn_of_wp_marks Tryd.func20 rfl trivial ?_ rfl
  simp only [Tryd.ntmps20, List.size_toArray, List.length_cons, List.length_nil, Nat.reduceAdd, Nat.reduceSub, Array.replicate_succ, Array.replicate_zero, List.push_toArray, List.append_toArray, List.nil_append, List.cons_append]
  clear hlen
  gi_wp2_with (refine ⟨trivial, ?_⟩; gi_at_call 37; refine (chunk_in _ _ trivial rfl _ _ _ C (by omega) _).mono ?_; rintro e w' ⟨rfl, rfl⟩)
  obtain ⟨W0, hW0⟩ : ∃ W0, W0 = (w.alloc (.cells #[] 9)).alloc (.cells #[.slice (some ⟨w.heap.size, 0, none⟩) 0 0] 34) := ⟨_, rfl⟩
  have s0 : W0.heap.size = w.heap.size + 2 := by rw [hW0]; simp
  have bO : Boxed W0 (w.heap.size + 1) 34 (.slice (some ⟨w.heap.size, 0, none⟩) 0 0) := by
    have := Boxed.new (w.alloc (.cells #[] 9)) 34 (.slice (some ⟨w.heap.size, 0, none⟩) 0 0)
    rw [World.size_alloc] at this
    rw [hW0]; exact this
  have rO : W0.ownsRow w.heap.size 9 1 (.slice (some ⟨w.heap.size, 0, none⟩) 0 0) 0 [] := by
    have := (World.ownsRow_lit (base := w.heap.size) (e := 9) (size := 1) w #[] 0 (Nat.le_refl _) (by decide) (by simp)).alloc (.cells #[.slice (some ⟨w.heap.size, 0, none⟩) 0 0] 34)
    rw [hW0]; simpa using this
  have B0 : Below w.heap.size w W0 := by rw [hW0]; exact below_alloc (below_alloc (Below.refl _ _) _) _
  rw [← hW0]
  clear hW0
  obtain ⟨W1, hW1⟩ : ∃ W1, W1 = (W0.alloc (.cells #[.slice (some ⟨b, off, none⟩) len c1] 22)).alloc (.cells #[.int .i64 C] 3) := ⟨_, rfl⟩
  have s1 : W1.heap.size = w.heap.size + 4 := by rw [hW1]; simp [s0]
  have kS : W1.heap[w.heap.size + 1 + 1]? = some (.cells #[.slice (some ⟨b, off, none⟩) len c1] 22 (0, 0)) := by
    have := blk_alloc (blk_new W0 (.cells #[.slice (some ⟨b, off, none⟩) len c1] 22)) (.cells #[.int .i64 C] 3)
    rw [s0] at this
    rw [hW1]; exact this
  have kC : W1.heap[w.heap.size + 1 + 1 + 1]? = some (.cells #[.int .i64 C] 3 (0, 0)) := by
    have := blk_new (W0.alloc (.cells #[.slice (some ⟨b, off, none⟩) len c1] 22)) (.cells #[.int .i64 C] 3)
    rw [World.size_alloc, s0] at this
    rw [hW1]; exact this
  have bO1 : Boxed W1 (w.heap.size + 1) 34 (.slice (some ⟨w.heap.size, 0, none⟩) 0 0) := by rw [hW1]; exact (bO.alloc _).alloc _
  have rO1 : W1.ownsRow w.heap.size 9 1 (.slice (some ⟨w.heap.size, 0, none⟩) 0 0) 0 [] := by rw [hW1]; exact (rO.alloc _).alloc _
  have B1 : Below w.heap.size w W1 := by rw [hW1]; exact below_alloc (below_alloc B0 _) _
  rw [← hW1]
  clear hW1 bO rO B0 s0
  refine wpIn_rangeFunc_ownG rfl (by omega) (gf := 55) (lb := #[.pointer (some ⟨w.heap.size + 1 + 1, 0, none⟩), .pointer (some ⟨w.heap.size + 1 + 1 + 1, 0, none⟩)]) rfl trivial (enters_of Tryd.func55 (by kernel_rfl) rfl)
    (chunk_stops Fence.wide 5 trivial rfl (by omega) (w.heap.size + 1 + 1) (w.heap.size + 1 + 1 + 1) w.heap.size b off len c1 N C (by omega) HN.out hc1 k4 W1 kS kC) (fun h k => KpC.t h k) (belowC_b (by omega) (by omega) (by omega)) (Below.refl _ _) (fun _ => rfl)
    (fun pre W => (∃ v, Boxed W (w.heap.size + 1) 34 v ∧ W.ownsRow w.heap.size 9 1 v pre.length (pre.map fun x : Fin N => Value.string (rowT ((l1.drop (x.val * C)).take C))) ∧ True) ∧ (Boxed W (w.heap.size + 1 + 1) 22 (.slice (some ⟨b, off, none⟩) len c1) ∧ Boxed W (w.heap.size + 1 + 1 + 1) 3 (.int .i64 C)) ∧ Below w.heap.size w W)
    (fun _ _ _ => False)
    (OwnFrom.and (Own.from (holdsRow_own w.heap.size (w.heap.size + 1) 34 9 1 (fun pre : List (Fin N) => pre.length) (fun pre => pre.map fun x : Fin N => Value.string (rowT ((l1.drop (x.val * C)).take C))) (fun _ _ => True)) _) (OwnFrom.and (OwnFrom.and (Own.from (boxed_own _ _ _) _) (Own.from (boxed_own _ _ _) _)) (ownFrom_below (Nat.le_refl _) (by omega))))
    (fun _ _ _ _ _ hs _ _ => hs)
    ⟨⟨_, bO1, rO1, trivial⟩, ⟨kS, kC⟩, B1⟩
    (fun x => { tmps := #[.int .i64 C, .slice (some ⟨b, off, none⟩) len c1, undef, undef, .string ⟨#[]⟩, .pointer (some ⟨w.heap.size + 1, 0, none⟩), .slice (some ⟨b, off + x.val * C, none⟩) C C, .slice (some ⟨w.heap.size, 0, none⟩) 0 0, .slice (some ⟨b, off, none⟩) len c1, .int .i64 C, .func (.func 55) #[] #[.pointer (some ⟨w.heap.size + 1 + 1, 0, none⟩), .pointer (some ⟨w.heap.size + 1 + 1 + 1, 0, none⟩)], .slice (some ⟨b, off + x.val * C, none⟩) C C, undef, undef, undef, undef, undef, undef, undef], defers := [] }) ?assign ?body ?done ?stop
  case assign =>
    intro l x W K hK
    simp only [encC]
    gi_wp2
    exact hK
  case body =>
    rintro l pre x W ⟨⟨v, hv, hrow, _⟩, ⟨hS, hCb⟩, hB⟩ hlt
    have hmx : Tryd.prog.follows .mixedOrders = true := by kernel_rfl
    obtain ⟨i0, hi, hz0, hz1, hz2⟩ := info_parts infoStr
    have hxC : x.val * C + C ≤ len := by
      rw [HN.out, ← Nat.succ_mul]; exact Nat.mul_le_mul_right _ x.isLt
    have hcW : ∀ j, j < len → W.drew.cell? ⟨b, off + j, none⟩ = some (.int .i64 (rd l1 (j : Nat))) := fun j hj => (hB.cell (p := ⟨b, off + j, none⟩) hb).trans (hcells j hj)
    obtain ⟨hrl, hrc⟩ := sub_row hcW HL.out.symm k4 (x.val * C) C hxC
    have HD := Aside0.mk (fun W' hr => digits_call b (off + x.val * C) C ((l1.drop (x.val * C)).take C) hrl (by omega) W' hr)
    have HR2 := Aside0.mk hrc
    have LT := Aside0.mk (show pre.length + 1 ≤ 1000 by
      have hNl : N ≤ len := by rw [HN.out]; exact Nat.le_mul_of_pos_right N (by omega)
      omega)
    have hc0 : W.drew.cell? ⟨w.heap.size + 1, 0, none⟩ = some v := hv.cell
    clear hcW hrl hrc
    gi_wp2
    refine wpIn_region_any (by assumption) ?_
    try (change wpAnyIn _ _ _ _ _ _ _ _ _ (World.drew _))
    -- ROUND
    refine wpAnyIn_ready (rs := [0, 1]) (by kernel_rfl) (by simp) ?_
    refine AllReadyIn.cons rfl (fun K hK => ?_) ?_
    · go_simp
      refine hK _ _ ?_
      clear hK K
      refine wpAnyIn_ready (rs := [1]) (by kernel_rfl) (by simp) ?_
      refine AllReadyIn.cons rfl (fun K hK => ?_) ?_
      · go_simp
        refine hK _ _ ?_
        clear hK K
        refine wpAnyIn_ready (rs := [2]) (by kernel_rfl) (by simp) ?_
        refine AllReadyIn.cons rfl (fun K hK => ?_) ?_
        · go_simp
          gi_wp2_with (refine ⟨trivial, ?_⟩; gi_at_call 38; refine (CallsIn.inRound l (callsIn_wide.2 (HD.out _ HR2.out))).mono ?_; rintro e w2 ⟨rfl, B2⟩)
          have BF := Aside0.mk (round_call B2)
          have hb2 := hv.below BF.out
          have hc2 : w2.cell? ⟨w.heap.size + 1, 0, none⟩ = some v := hb2.cell
          have hc3 : (w2.alloc (.cells #[.string (rowT ((l1.drop (x.val * C)).take C))] 9)).cell? ⟨w.heap.size + 1, 0, none⟩ = some v := (hb2.alloc _).cell
          clear B2 hc0
          refine wpAnyIn_ready (rs := [3]) (by kernel_rfl) (by simp) ?_
          refine AllReadyIn.cons rfl (fun K hK => ?_) ?_
          · go_simp
            refine hK _ _ ?_
            clear hK K
            refine wpAnyIn_ready (rs := [4]) (by kernel_rfl) (by simp) ?_
            refine AllReadyIn.cons rfl (fun K hK => ?_) ?_
            · refine stepIn_append _ rfl (.tmp 12) (.tmp 15) 34 rfl w.heap.size 9 i0 (.string ⟨#[]⟩) 1 16 Tryd.underlying34 hi hz0 hz1 hz2 rfl (by decide) v pre.length (pre.map fun x : Fin N => Value.string (rowT ((l1.drop (x.val * C)).take C))) rfl ((own_below hrow BF.out).alloc _) ⟨w2.heap.size, 0, none⟩ 1 1 [.string (rowT ((l1.drop (x.val * C)).take C))] rfl rfl (cell_one_new _ _ _) (by simp [Value.oneCell']) (by have := LT.out; unfold maxLen; omega) (by have := LT.out; omega) (by have := hB.size; have := BF.out.size; simp; omega) ?_
              intro v' w3 hown hgrow
              refine hK _ _ ?_
              clear hK K
              obtain ⟨g4, cap4, rfl⟩ := ownsRow_succ hown
              obtain ⟨hv3, FIN0⟩ := round_fin W1.heap.size hv hrow hS hCb hB BF.out (by decide) (by decide) (by decide) hown hgrow
              have hc4 := hv3.cell
              have hf4 := hv3.frozen
              have FIN := Aside0.mk FIN0
              clear FIN0 hown hgrow hc2 hc3
              refine wpAnyIn_ready (rs := [5]) (by kernel_rfl) (by simp) ?_
              refine AllReadyIn.cons rfl (fun K hK => ?_) ?_
              · go_simp
                refine hK _ _ ?_
                clear hK K
                refine wpAnyIn_done (by kernel_rfl) ?_ _
                obtain ⟨f1, f2, f3, f4, f5, f6, f7⟩ := FIN.out
                exact ⟨f1, f2, ⟨_, f3, by simpa using f4, trivial⟩, ⟨f5, f6⟩, f7⟩
              exact AllReadyIn.nil
            exact AllReadyIn.nil
          exact AllReadyIn.nil
        exact AllReadyIn.nil
      exact AllReadyIn.nil
    refine AllReadyIn.cons rfl (fun K hK => ?_) ?_
    · go_simp
      refine hK _ _ ?_
      clear hK K
      refine wpAnyIn_ready (rs := [0, 2]) (by kernel_rfl) (by simp) ?_
      refine AllReadyIn.cons rfl (fun K hK => ?_) ?_
      · go_simp
        refine hK _ _ ?_
        clear hK K
        refine wpAnyIn_ready (rs := [2]) (by kernel_rfl) (by simp) ?_
        refine AllReadyIn.cons rfl (fun K hK => ?_) ?_
        · go_simp
          gi_wp2_with (refine ⟨trivial, ?_⟩; gi_at_call 38; refine (CallsIn.inRound l (callsIn_wide.2 (HD.out _ HR2.out))).mono ?_; rintro e w2 ⟨rfl, B2⟩)
          have BF := Aside0.mk (round_call B2)
          have hb2 := hv.below BF.out
          have hc2 : w2.cell? ⟨w.heap.size + 1, 0, none⟩ = some v := hb2.cell
          have hc3 : (w2.alloc (.cells #[.string (rowT ((l1.drop (x.val * C)).take C))] 9)).cell? ⟨w.heap.size + 1, 0, none⟩ = some v := (hb2.alloc _).cell
          clear B2 hc0
          refine wpAnyIn_ready (rs := [3]) (by kernel_rfl) (by simp) ?_
          refine AllReadyIn.cons rfl (fun K hK => ?_) ?_
          · go_simp
            refine hK _ _ ?_
            clear hK K
            refine wpAnyIn_ready (rs := [4]) (by kernel_rfl) (by simp) ?_
            refine AllReadyIn.cons rfl (fun K hK => ?_) ?_
            · refine stepIn_append _ rfl (.tmp 12) (.tmp 15) 34 rfl w.heap.size 9 i0 (.string ⟨#[]⟩) 1 16 Tryd.underlying34 hi hz0 hz1 hz2 rfl (by decide) v pre.length (pre.map fun x : Fin N => Value.string (rowT ((l1.drop (x.val * C)).take C))) rfl ((own_below hrow BF.out).alloc _) ⟨w2.heap.size, 0, none⟩ 1 1 [.string (rowT ((l1.drop (x.val * C)).take C))] rfl rfl (cell_one_new _ _ _) (by simp [Value.oneCell']) (by have := LT.out; unfold maxLen; omega) (by have := LT.out; omega) (by have := hB.size; have := BF.out.size; simp; omega) ?_
              intro v' w3 hown hgrow
              refine hK _ _ ?_
              clear hK K
              obtain ⟨g4, cap4, rfl⟩ := ownsRow_succ hown
              obtain ⟨hv3, FIN0⟩ := round_fin W1.heap.size hv hrow hS hCb hB BF.out (by decide) (by decide) (by decide) hown hgrow
              have hc4 := hv3.cell
              have hf4 := hv3.frozen
              have FIN := Aside0.mk FIN0
              clear FIN0 hown hgrow hc2 hc3
              refine wpAnyIn_ready (rs := [5]) (by kernel_rfl) (by simp) ?_
              refine AllReadyIn.cons rfl (fun K hK => ?_) ?_
              · go_simp
                refine hK _ _ ?_
                clear hK K
                refine wpAnyIn_done (by kernel_rfl) ?_ _
                obtain ⟨f1, f2, f3, f4, f5, f6, f7⟩ := FIN.out
                exact ⟨f1, f2, ⟨_, f3, by simpa using f4, trivial⟩, ⟨f5, f6⟩, f7⟩
              exact AllReadyIn.nil
            exact AllReadyIn.nil
          exact AllReadyIn.nil
        exact AllReadyIn.nil
      refine AllReadyIn.cons rfl (fun K hK => ?_) ?_
      · go_simp
        gi_wp2_with (refine ⟨trivial, ?_⟩; gi_at_call 38; refine (CallsIn.inRound l (callsIn_wide.2 (HD.out _ HR2.out))).mono ?_; rintro e w2 ⟨rfl, B2⟩)
        have BF := Aside0.mk (round_call B2)
        have hb2 := hv.below BF.out
        have hc2 : w2.cell? ⟨w.heap.size + 1, 0, none⟩ = some v := hb2.cell
        have hc3 : (w2.alloc (.cells #[.string (rowT ((l1.drop (x.val * C)).take C))] 9)).cell? ⟨w.heap.size + 1, 0, none⟩ = some v := (hb2.alloc _).cell
        clear B2 hc0
        refine wpAnyIn_ready (rs := [0, 3]) (by kernel_rfl) (by simp) ?_
        refine AllReadyIn.cons rfl (fun K hK => ?_) ?_
        · go_simp
          refine hK _ _ ?_
          clear hK K
          refine wpAnyIn_ready (rs := [3]) (by kernel_rfl) (by simp) ?_
          refine AllReadyIn.cons rfl (fun K hK => ?_) ?_
          · go_simp
            refine hK _ _ ?_
            clear hK K
            refine wpAnyIn_ready (rs := [4]) (by kernel_rfl) (by simp) ?_
            refine AllReadyIn.cons rfl (fun K hK => ?_) ?_
            · refine stepIn_append _ rfl (.tmp 12) (.tmp 15) 34 rfl w.heap.size 9 i0 (.string ⟨#[]⟩) 1 16 Tryd.underlying34 hi hz0 hz1 hz2 rfl (by decide) v pre.length (pre.map fun x : Fin N => Value.string (rowT ((l1.drop (x.val * C)).take C))) rfl ((own_below hrow BF.out).alloc _) ⟨w2.heap.size, 0, none⟩ 1 1 [.string (rowT ((l1.drop (x.val * C)).take C))] rfl rfl (cell_one_new _ _ _) (by simp [Value.oneCell']) (by have := LT.out; unfold maxLen; omega) (by have := LT.out; omega) (by have := hB.size; have := BF.out.size; simp; omega) ?_
              intro v' w3 hown hgrow
              refine hK _ _ ?_
              clear hK K
              obtain ⟨g4, cap4, rfl⟩ := ownsRow_succ hown
              obtain ⟨hv3, FIN0⟩ := round_fin W1.heap.size hv hrow hS hCb hB BF.out (by decide) (by decide) (by decide) hown hgrow
              have hc4 := hv3.cell
              have hf4 := hv3.frozen
              have FIN := Aside0.mk FIN0
              clear FIN0 hown hgrow hc2 hc3
              refine wpAnyIn_ready (rs := [5]) (by kernel_rfl) (by simp) ?_
              refine AllReadyIn.cons rfl (fun K hK => ?_) ?_
              · go_simp
                refine hK _ _ ?_
                clear hK K
                refine wpAnyIn_done (by kernel_rfl) ?_ _
                obtain ⟨f1, f2, f3, f4, f5, f6, f7⟩ := FIN.out
                exact ⟨f1, f2, ⟨_, f3, by simpa using f4, trivial⟩, ⟨f5, f6⟩, f7⟩
              exact AllReadyIn.nil
            exact AllReadyIn.nil
          exact AllReadyIn.nil
        refine AllReadyIn.cons rfl (fun K hK => ?_) ?_
        · go_simp
          refine hK _ _ ?_
          clear hK K
          refine wpAnyIn_ready (rs := [0]) (by kernel_rfl) (by simp) ?_
          refine AllReadyIn.cons rfl (fun K hK => ?_) ?_
          · go_simp
            refine hK _ _ ?_
            clear hK K
            refine wpAnyIn_ready (rs := [4]) (by kernel_rfl) (by simp) ?_
            refine AllReadyIn.cons rfl (fun K hK => ?_) ?_
            · refine stepIn_append _ rfl (.tmp 12) (.tmp 15) 34 rfl w.heap.size 9 i0 (.string ⟨#[]⟩) 1 16 Tryd.underlying34 hi hz0 hz1 hz2 rfl (by decide) v pre.length (pre.map fun x : Fin N => Value.string (rowT ((l1.drop (x.val * C)).take C))) rfl ((own_below hrow BF.out).alloc _) ⟨w2.heap.size, 0, none⟩ 1 1 [.string (rowT ((l1.drop (x.val * C)).take C))] rfl rfl (cell_one_new _ _ _) (by simp [Value.oneCell']) (by have := LT.out; unfold maxLen; omega) (by have := LT.out; omega) (by have := hB.size; have := BF.out.size; simp; omega) ?_
              intro v' w3 hown hgrow
              refine hK _ _ ?_
              clear hK K
              obtain ⟨g4, cap4, rfl⟩ := ownsRow_succ hown
              obtain ⟨hv3, FIN0⟩ := round_fin W1.heap.size hv hrow hS hCb hB BF.out (by decide) (by decide) (by decide) hown hgrow
              have hc4 := hv3.cell
              have hf4 := hv3.frozen
              have FIN := Aside0.mk FIN0
              clear FIN0 hown hgrow hc2 hc3
              refine wpAnyIn_ready (rs := [5]) (by kernel_rfl) (by simp) ?_
              refine AllReadyIn.cons rfl (fun K hK => ?_) ?_
              · go_simp
                refine hK _ _ ?_
                clear hK K
                refine wpAnyIn_done (by kernel_rfl) ?_ _
                obtain ⟨f1, f2, f3, f4, f5, f6, f7⟩ := FIN.out
                exact ⟨f1, f2, ⟨_, f3, by simpa using f4, trivial⟩, ⟨f5, f6⟩, f7⟩
              exact AllReadyIn.nil
            exact AllReadyIn.nil
          exact AllReadyIn.nil
        exact AllReadyIn.nil
      exact AllReadyIn.nil
    exact AllReadyIn.nil
    -- ENDROUND
  case done =>
    rintro D ys W hD rfl ⟨⟨v, hv, hrow, _⟩, _, hB⟩ hK
    have hc := hv.cell
    have hl9 : (List.finRange N).length = N := List.length_finRange
    have hN0 : 0 < N := by
      rcases Nat.eq_zero_or_pos N with h0 | h0
      · rw [h0, Nat.zero_mul] at HN; have := HN.out; omega
      · exact h0
    obtain ⟨bk, cap, rfl, hbl, hcp, hcl⟩ := row_cells hrow (by rw [hl9]; exact hN0)
    rw [hl9] at hcp hc
    have HJ := Aside0.mk (join_call bk cap N (joinT l1 C N) (by unfold joinT; simp) hcp W hbl (by
      intro j x hx
      unfold joinT at hx
      have hj : j < N := by
        rcases Nat.lt_or_ge j N with h' | h'
        · exact h'
        · rw [List.getElem?_eq_none (by simp; exact h')] at hx; cases hx
      rw [List.getElem?_map, List.getElem?_range hj] at hx
      injection hx with hx
      subst hx
      refine hcl j _ ?_
      rw [List.getElem?_map, List.getElem?_eq_getElem (by rw [hl9]; exact hj)]
      simp) r HH.out (by
        have hNl : N ≤ len := by rw [HN.out]; exact Nat.le_mul_of_pos_right N (by omega)
        omega) (join_len (fun x hx => by
        unfold joinT at hx
        obtain ⟨j, hj, rfl⟩ := List.mem_map.mp hx
        exact rowT_len _ (by simp; omega)) (by unfold joinT; simp; have hNl : N ≤ len := by (rw [HN.out]; exact Nat.le_mul_of_pos_right N (by omega))
                                               omega)))
    have HB := Aside0.mk hB
    have HK := Aside0.mk hK
    clear hrow hv hcl hK hB
    gi_wp2_with (refine ⟨trivial, ?_⟩; gi_at_call 39; refine (callsIn_wide.2 HJ.out).mono ?_; rintro e w' ⟨rfl, BJ⟩)
    have hK2 : w'.heap[D]? = some (.deferred (some [])) := (BJ.block D (blk_lt HK.out)).trans HK.out
    refine ⟨by simp, .inl ⟨_, _, rfl, run_takeDeferred hK2, ?_⟩⟩
    exact ⟨_, results_tmp rfl _ _ _, rfl, (below_step HB.out BJ).trans (belowK_b (w := w) (Nat.le_refl _) w' D _ _ (by omega) hK2 rfl rfl)⟩
  case stop =>
    rintro D c pre W _ _ h _
    exact h.elim
end Go.Proofs.YtmfocekebenniaaDoor.Given
