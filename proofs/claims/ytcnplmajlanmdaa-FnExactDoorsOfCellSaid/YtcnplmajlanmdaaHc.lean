/- impl.house.doors by hand (its rows lie apart); for all slices that read as lists. -/
import Derived.Test.YtcnplmajlanmdaaHb
import Derived.Test.YtcnplmajlanmdaaQx3
import Derived.Lib.Walk
import Derived.Deep.RegionHeld3
import Derived.Deep.DeepCutAuto
import Derived.Outline
namespace Go.Proofs.Ytcnplmajlanmdaa.Given
open Go.Proofs.Ytcnplmajlanmdaa.Q Go.RowKit Go.Proofs.YtcnplmajlanmdaaW.PrintWords Go.Proofs.YtcnplmajlanmdaaW.PrintLast Go.Proofs.YtcnplmajlanmdaaW.PrintMore
set_option linter.unusedVariables false
set_option linter.unusedSimpArgs false

theorem infoS : (Try.prog.info? 22).map (fun i => (i.zero, i.size, i.bytes)) = some (some (.slice none 0 0), 1, 24) := by kernel_rfl
/-- A pair that lies in a block of its own. -/
theorem pair_R {w : World} {B b : Nat} {ok : Nat → Prop} {x y : Int} (hh : w.heap[b]? = some (.cells #[.int .i64 x, .int .i64 y] 3 (0, 0))) (hB : B ≤ b) (ho : ok b) : Kd.R (Kd.int .i64) 3 w B ok (.slice (some ⟨b, 0, none⟩) 2 2) [x, y] := by
  refine ⟨fun k hk => by simp [Value.ownBlock] at hk; subst hk; exact ho, [.int .i64 x, .int .i64 y], ⟨rfl, .inr ⟨b, 2, #[.int .i64 x, .int .i64 y], rfl, hB, hh, Nat.le_refl _, by decide, rfl, rfl⟩⟩, rfl, fun j p hj => ?_⟩
  match j, hj with
  | 0, hj => simp at hj; subst hj; rfl
  | 1, hj => simp at hj; subst hj; rfl
  | j + 2, hj => simp at hj
theorem empty_S {w : World} {B b : Nat} {ok : Nat → Prop} (hh : w.heap[b]? = some (.cells #[] 22 (0, 0))) (hB : B ≤ b) (ho : ok b) : Kd.S (Kd.slice 3 (Kd.int .i64)) 22 w B ok (.slice (some ⟨b, 0, none⟩) 0 0) [] :=
  ⟨fun _ => 0, fun k hk => by simp [Value.ownBlock] at hk; subst hk; exact ho, [], ⟨rfl, .inr ⟨b, 0, #[], rfl, hB, hh, Nat.le_refl _, by decide, rfl, rfl⟩⟩, Reps.none _ _⟩

/-- The literal of three pairs, each in a block of its own. -/
def LitAt (w2 wx : World) (b0 b1 b2 L : Nat) (i j m : Int) : Prop := Below w2.heap.size w2 wx ∧ (w2.heap.size ≤ b0 ∧ w2.heap.size ≤ b1 ∧ w2.heap.size ≤ b2 ∧ w2.heap.size ≤ L) ∧ (b0 ≠ b1 ∧ b0 ≠ b2 ∧ b1 ≠ b2) ∧
  wx.heap[b0]? = some (.cells #[.int .i64 i, .int .i64 j] 3 (0, 0)) ∧ wx.heap[b1]? = some (.cells #[.int .i64 i, .int .i64 m] 3 (0, 0)) ∧ wx.heap[b2]? = some (.cells #[.int .i64 j, .int .i64 m] 3 (0, 0)) ∧
  wx.heap[L]? = some (.cells #[.slice (some ⟨b0, 0, none⟩) 2 2, .slice (some ⟨b1, 0, none⟩) 2 2, .slice (some ⟨b2, 0, none⟩) 2 2] 22 (0, 0))
theorem four (w : World) (a b c d : Obj) (n : Nat) : Below w.heap.size w (((((w.alloc a).alloc b).alloc c).alloc d).drewN n) ∧ (((((w.alloc a).alloc b).alloc c).alloc d).drewN n).heap[w.heap.size]? = some a ∧ (((((w.alloc a).alloc b).alloc c).alloc d).drewN n).heap[w.heap.size + 1]? = some b ∧
    (((((w.alloc a).alloc b).alloc c).alloc d).drewN n).heap[w.heap.size + 1 + 1]? = some c ∧ (((((w.alloc a).alloc b).alloc c).alloc d).drewN n).heap[w.heap.size + 1 + 1 + 1]? = some d := by
  have s1 : (w.alloc a).heap.size = w.heap.size + 1 := by simp
  have s2 : ((w.alloc a).alloc b).heap.size = w.heap.size + 1 + 1 := by simp
  have s3 : (((w.alloc a).alloc b).alloc c).heap.size = w.heap.size + 1 + 1 + 1 := by simp
  have h1 : (w.alloc a).heap[w.heap.size]? = some a := heap_alloc_new w a
  have h2 : ((w.alloc a).alloc b).heap[w.heap.size + 1]? = some b := by rw [← s1]; exact heap_alloc_new (w.alloc a) b
  have h3 : (((w.alloc a).alloc b).alloc c).heap[w.heap.size + 1 + 1]? = some c := by rw [← s2]; exact heap_alloc_new _ c
  have h4 : ((((w.alloc a).alloc b).alloc c).alloc d).heap[w.heap.size + 1 + 1 + 1]? = some d := by rw [← s3]; exact heap_alloc_new _ d
  have up : ∀ (W : World) (o p : Obj) (k : Nat), W.heap[k]? = some o → (W.alloc p).heap[k]? = some o := fun W o p k hk => (Below.heap_alloc W p k (blk_lt hk)).trans hk
  refine ⟨pw_below_drewN (below_alloc (below_alloc (below_alloc (below_alloc (Below.refl _ _) a) b) c) d) n, ?_, ?_, ?_, h4⟩
  · exact up _ _ _ _ (up _ _ _ _ (up _ _ _ _ h1))
  · exact up _ _ _ _ (up _ _ _ _ h2)
  · exact up _ _ _ _ h3
/-- The three pairs of a cell. -/
def pairs (i j m : Int) : List (List Int) := [[i, j], [i, m], [j, m]]
def cellIn (l c : List Int) : Prop := c.length = 3 ∧ (0 ≤ rd c 0 ∧ rd c 0 < (l.length : Int)) ∧ (0 ≤ rd c 1 ∧ rd c 1 < (l.length : Int)) ∧ 0 ≤ rd c 2 ∧ rd c 2 < (l.length : Int)
def px (i j m : Int) (t : Nat) : Int := if t = 0 then i else if t = 1 then i else j
def py (i j m : Int) (t : Nat) : Int := if t = 0 then j else if t = 1 then m else m
def bl (b0 b1 b2 : Nat) (t : Nat) : Nat := if t = 0 then b0 else if t = 1 then b1 else b2
theorem take_pairs (i j m : Int) (k : Nat) (hk : k < 3) : (pairs i j m).take (k + 1) = (pairs i j m).take k ++ [[px i j m k, py i j m k]] := by
  obtain rfl | rfl | rfl : k = 0 ∨ k = 1 ∨ k = 2 := by omega
  all_goals rfl
/-- What is left to be appended lies apart. -/
def okD (w : World) (b0 b1 b2 L k : Nat) (x : Nat) : Prop := (x ≠ w.heap.size ∧ x ≠ L) ∧ ∀ t, k ≤ t → t < 3 → x ≠ bl b0 b1 b2 t
structure Lit1 (w w1 wr : World) (b0 b1 b2 L : Nat) (i j m : Int) : Prop where
  bel : Below w1.heap.size w1 wr
  far : ∀ t, t < 3 → w.heap.size + 1 < bl b0 b1 b2 t
  farL : w.heap.size + 1 < L
  dis : ∀ s t, s < 3 → t < 3 → bl b0 b1 b2 s = bl b0 b1 b2 t → s = t
  at_ : ∀ t, t < 3 → wr.heap[bl b0 b1 b2 t]? = some (.cells #[.int .i64 (px i j m t), .int .i64 (py i j m t)] 3 (0, 0))
  lit : wr.heap[L]? = some (.cells #[.slice (some ⟨b0, 0, none⟩) 2 2, .slice (some ⟨b1, 0, none⟩) 2 2, .slice (some ⟨b2, 0, none⟩) 2 2] 22 (0, 0))
theorem Lit1.of {w w1 w2 wr : World} {b0 b1 b2 L : Nat} {i j m : Int} (h : LitAt w2 wr b0 b1 b2 L i j m) (h1 : Below w1.heap.size w1 w2) (hs : w2.heap.size = w.heap.size + 2) : Lit1 w w1 wr b0 b1 b2 L i j m := by
  obtain ⟨g1, ⟨g2, g3, g4, g5⟩, ⟨g6, g7, g8⟩, g9, g10, g11, g12⟩ := h
  refine ⟨below_step h1 g1, fun t ht => ?_, by omega, fun s t hs ht he => ?_, fun t ht => ?_, g12⟩
  · unfold bl; split
    · omega
    · split <;> omega
  · unfold bl at he
    obtain rfl | rfl | rfl : s = 0 ∨ s = 1 ∨ s = 2 := by omega
    all_goals obtain rfl | rfl | rfl : t = 0 ∨ t = 1 ∨ t = 2 := by omega
    all_goals simp at he
    all_goals omega
  · obtain rfl | rfl | rfl : t = 0 ∨ t = 1 ∨ t = 2 := by omega
    · exact g9
    · exact g10
    · exact g11
theorem Lit1.below {w w1 wr wz : World} {b0 b1 b2 L : Nat} {i j m : Int} (h : Lit1 w w1 wr b0 b1 b2 L i j m) (hb : Below wr.heap.size wr wz) : Lit1 w w1 wz b0 b1 b2 L i j m :=
  ⟨below_step h.bel hb, h.far, h.farL, h.dis, fun t ht => (hb.block _ (blk_lt (h.at_ t ht))).trans (h.at_ t ht), (hb.block _ (blk_lt h.lit)).trans h.lit⟩
theorem Lit1.cell {w w1 wr : World} {b0 b1 b2 L : Nat} {i j m : Int} (h : Lit1 w w1 wr b0 b1 b2 L i j m) {k : Nat} (hk : k < 3) : wr.cell? ⟨L, k, none⟩ = some (.slice (some ⟨bl b0 b1 b2 k, 0, none⟩) 2 2) := by
  rw [blk_cell h.lit]
  obtain rfl | rfl | rfl : k = 0 ∨ k = 1 ∨ k = 2 := by omega
  all_goals rfl
abbrev SD (wr : World) (B : Nat) (ok : Nat → Prop) (v : Value) (xs : List (List Int)) : Prop := Kd.S (Kd.slice 3 (Kd.int .i64)) 22 wr B ok v xs
theorem Lit1.grown {w w1 wr wz : World} {b0 b1 b2 L k : Nat} {i j m : Int} {v : Value} {xs : List (List Int)} (h : Lit1 w w1 wr b0 b1 b2 L i j m) (hs : w1.heap.size = w.heap.size + 1) (hS : SD wr w.heap.size (okD w b0 b1 b2 L k) v xs) (hg : wr.grownBy wz v.ownBlock) : Lit1 w w1 wz b0 b1 b2 L i j m := by
  have hL : some L ≠ v.ownBlock := Kd.S_away hS (fun x hx => hx.1.2)
  refine ⟨⟨hg.os.trans h.bel.os, hg.tape.trans h.bel.tape, hg.output.trans h.bel.output, Nat.le_trans h.bel.size hg.size, fun x hx => ?_⟩, h.far, h.farL, h.dis, fun t ht => ?_, ?_⟩
  · refine (hg.block x (Nat.lt_of_lt_of_le hx h.bel.size) (fun e => ?_)).trans (h.bel.block x hx)
    have h1 := Kd.S_base hS x e.symm
    have h2 := ((Kd.S_R hS).1 x e.symm).1.1
    omega
  · exact (hg.block _ (blk_lt (h.at_ t ht)) (Kd.S_ne hS (h.at_ t ht) (by decide))).trans (h.at_ t ht)
  · exact (hg.block _ (blk_lt h.lit) hL).trans h.lit
theorem okD_next {w : World} {b0 b1 b2 L k : Nat} (x : Nat) (h : okD w b0 b1 b2 L k x) (hk : k < 3) : okD w b0 b1 b2 L (k + 1) x ∧ ¬ x = bl b0 b1 b2 k := ⟨⟨h.1, fun t ht h3 => h.2 t (by omega) h3⟩, h.2 k (Nat.le_refl _) hk⟩
theorem okD_self {w w1 wr : World} {b0 b1 b2 L k : Nat} {i j m : Int} (h : Lit1 w w1 wr b0 b1 b2 L i j m) (hk : k < 3) : okD w b0 b1 b2 L (k + 1) (bl b0 b1 b2 k) := by
  have hf := h.far k hk
  refine ⟨⟨by omega, fun e => ?_⟩, fun t ht h3 e => ?_⟩
  · have h1 := h.at_ k hk
    rw [e, h.lit] at h1
    injection h1 with h1
    injection h1 with _ h1
    exact absurd h1 (by decide)
  · have := h.dis k t hk h3 e
    omega
theorem okD_fresh {w w1 wr : World} {b0 b1 b2 L k : Nat} {i j m : Int} (h : Lit1 w w1 wr b0 b1 b2 L i j m) (x : Nat) (hx : wr.heap.size ≤ x) : okD w b0 b1 b2 L k x := by
  have h1 := blk_lt h.lit
  have h2 := h.farL
  refine ⟨⟨by omega, by omega⟩, fun t ht h3 e => ?_⟩
  have := blk_lt (h.at_ t h3)
  omega
instance (l c : List Int) : Decidable (cellIn l c) := by unfold cellIn; exact inferInstance
def impl_house_doors.f (a0 : Int) (l1 : List Int) (l2 : List (List Int)) (l3 : List Int) (a1 : Int) : Option (List (List Int)) :=
  if (0 ≤ a1 ∧ a1 < (l2.length : Int)) ∧ cellIn l1 (rd_L1 l2 a1) then some ((pairs (rd (rd_L1 l2 a1) 0) (rd (rd_L1 l2 a1) 1) (rd (rd_L1 l2 a1) 2)).filter fun x => !(dropH l1 x)) else none

set_option maxHeartbeats 4000000 in
set_option maxRecDepth 100000 in
theorem impl_house_doors.calls (a0 : Int) (A1 : Option Addr) (c1 : Nat) (l1 : List Int) (A2 : Option Addr) (c2 : Nat) (l2 : List (List Int)) (A3 : Option Addr) (c3 : Nat) (l3 : List Int) (a1 : Int) (r : List (List Int)) (w : World)
    (hr1 : Kd.C (Kd.int .i64) w A1 l1.length l1) (hc1 : l1.length ≤ c1) (hr2 : Kd.C (Kd.slice 3 (Kd.int .i64)) w A2 l2.length l2) (hc2 : l2.length ≤ c2) (hr3 : Kd.C (Kd.int .i64) w A3 l3.length l3) (hc3 : l3.length ≤ c3) (h : impl_house_doors.f a0 l1 l2 l3 a1 = some r) :
    Calls Try.prog 58 #[.agg #[.int .i64 a0, .slice A1 l1.length c1, .slice A2 l2.length c2, .slice A3 l3.length c3], .int .i64 a1] w fun e w' => ∃ v0_ : Value, e = .returned (v0_) ∧ Kd.S (Kd.slice 3 (Kd.int .i64)) 22 w' w.heap.size (fun _ => True) v0_ r ∧ Below w.heap.size w w' := by
  unfold impl_house_doors.f at h
  by_cases hx : (0 ≤ a1 ∧ a1 < (l2.length : Int)) ∧ cellIn l1 (rd_L1 l2 a1)
  case neg => rw [if_neg hx] at h; cases h
  rw [if_pos hx] at h
  have HFR := Aside0.mk (Option.some.inj h)
  obtain ⟨⟨p0, q0⟩, k3, ⟨i0, i1⟩, ⟨j0, j1⟩, m0, m1⟩ := hx
  obtain ⟨ad2, Ac, cc, e2, x2, hlc, hic⟩ := at_L1 hr2 a1 p0 q0
  cases e2
  obtain ⟨ad, e3, x0⟩ := Kd.at_int hic 0 (by omega) (by omega)
  cases e3
  obtain ⟨ad', e3, x1⟩ := Kd.at_int hic 1 (by omega) (by omega)
  cases e3
  obtain ⟨ad', e3, xm⟩ := Kd.at_int hic 2 (by omega) (by omega)
  cases e3
  simp [Addr.add] at x0 x1 xm
  clear h hic hlc
  generalize rd (rd_L1 l2 a1) 0 = i at *
  generalize rd (rd_L1 l2 a1) 1 = j at *
  generalize rd (rd_L1 l2 a1) 2 = m at *
  rw [k3] at x2
  have hu := Try.underlying45
  obtain ⟨w1, hw1⟩ : ∃ w1, w1 = (w.alloc (.cells #[.int .i64 a0, .slice A1 l1.length c1, .slice (some ad2) l2.length c2, .slice A3 l3.length c3] 45)) := ⟨_, rfl⟩
  obtain ⟨w2, hw2⟩ : ∃ w2, w2 = w1.alloc (.cells #[] 22) := ⟨_, rfl⟩
  have B1 := Aside0.mk (show Below w.heap.size w w1 from hw1 ▸ below_alloc (Below.refl w.heap.size w) _)
  have B2 := Aside0.mk (show Below w.heap.size w w2 from hw2 ▸ below_alloc B1.out _)
  have hbk1 : w1.heap[w.heap.size]? = some (.cells #[.int .i64 a0, .slice A1 l1.length c1, .slice (some ad2) l2.length c2, .slice A3 l3.length c3] 45 (0, 0)) := by rw [hw1]; exact heap_alloc_new w _
  have hbk2 : w2.heap[w.heap.size]? = some (.cells #[.int .i64 a0, .slice A1 l1.length c1, .slice (some ad2) l2.length c2, .slice A3 l3.length c3] 45 (0, 0)) := by rw [hw2]; exact blk_alloc hbk1 _
  have hs1 : w1.heap.size = w.heap.size + 1 := by rw [hw1]; simp
  have hbk3 : w2.heap[w.heap.size + 1]? = some (.cells #[] 22 (0, 0)) := by rw [hw2, ← hs1]; exact heap_alloc_new w1 _
  have hs2 : w2.heap.size = w.heap.size + 2 := by rw [hw2]; simp [hs1]
  have x2' := (B1.out.cell (World.block_lt_of_cell? w _ x2)).trans x2
  rw [hw1] at x2'
  have K2 := Aside0.mk hbk2
  have K3 := Aside0.mk hbk3
  have Z2 := Aside0.mk hs2
  have W2 := Aside0.mk hw2
  have W1 := Aside0.mk hw1
  have HR1 := Aside0.mk hr1
  have HR2 := Aside0.mk hr2
  have HR3 := Aside0.mk hr3
  have C1 := Aside0.mk hc1
  have C2 := Aside0.mk hc2
  have C3 := Aside0.mk hc3
  have y0 := (B2.out.cell (World.block_lt_of_cell? w _ x0)).trans x0
  have y1 := (B2.out.cell (World.block_lt_of_cell? w _ x1)).trans x1
  have y2 := (B2.out.cell (World.block_lt_of_cell? w _ xm)).trans xm
  have LC := Aside0.mk k3
  clear hr1 hr2 hr3 hc1 hc2 hc3 hbk1 hbk2 hbk3 hs1 hs2 hw1 hw2 x0 x1 xm x2 k3
  have t0 : decide (0 ≤ a1) = true := decide_eq_true p0
  have t1 : decide (a1 < (l2.length : Int)) = true := decide_eq_true q0
  go_enter Try.func58, Try.ntmps58
  go_upto_region 2 with fail
  rw [← W1.out, ← W2.out]
  go_cut [36, 37, 38] (fun s36 s37 s38 wx => ∃ b0 b1 b2 L : Nat, s36 = .slice (some ⟨L, 0, none⟩) 3 3 ∧ s37 = .int .i64 3 ∧ s38 = .int .i64 0 ∧ LitAt w2 wx b0 b1 b2 L i j m)
  case first =>
    have HSS := Aside0.mk (fun W (hW : Below w2.heap.size w2 W) => And.intro hW (And.intro ((hW.cell (World.block_lt_of_cell? w2 _ y0)).trans y0) (And.intro ((hW.cell (World.block_lt_of_cell? w2 _ y1)).trans y1) ((hW.cell (World.block_lt_of_cell? w2 _ y2)).trans y2))))
    go_region_held3 (fun w' => Below w2.heap.size w2 w' ∧ w'.cell? ad = some (.int .i64 i) ∧ w'.cell? ⟨ad.block, ad.off + 1, none⟩ = some (.int .i64 j) ∧ w'.cell? ⟨ad.block, ad.off + 2, none⟩ = some (.int .i64 m)) (exact HSS.out _ (by repeat (first | exact Below.refl _ _ | apply below_drew | apply below_alloc))) (fail)
    all_goals (go_wp2_with fail; go_meet)
    all_goals first
      | exact ⟨w2.heap.size, w2.heap.size + 1, w2.heap.size + 1 + 1, _, rfl, rfl, rfl, (four w2 _ _ _ _ _).1, ⟨by omega, by omega, by omega, by omega⟩, ⟨by omega, by omega, by omega⟩, (four w2 _ _ _ _ _).2.1, (four w2 _ _ _ _ _).2.2.1, (four w2 _ _ _ _ _).2.2.2.1, (four w2 _ _ _ _ _).2.2.2.2⟩
      | exact ⟨w2.heap.size, w2.heap.size + 1 + 1, w2.heap.size + 1, _, rfl, rfl, rfl, (four w2 _ _ _ _ _).1, ⟨by omega, by omega, by omega, by omega⟩, ⟨by omega, by omega, by omega⟩, (four w2 _ _ _ _ _).2.1, (four w2 _ _ _ _ _).2.2.2.1, (four w2 _ _ _ _ _).2.2.1, (four w2 _ _ _ _ _).2.2.2.2⟩
      | exact ⟨w2.heap.size + 1, w2.heap.size, w2.heap.size + 1 + 1, _, rfl, rfl, rfl, (four w2 _ _ _ _ _).1, ⟨by omega, by omega, by omega, by omega⟩, ⟨by omega, by omega, by omega⟩, (four w2 _ _ _ _ _).2.2.1, (four w2 _ _ _ _ _).2.1, (four w2 _ _ _ _ _).2.2.2.1, (four w2 _ _ _ _ _).2.2.2.2⟩
      | exact ⟨w2.heap.size + 1, w2.heap.size + 1 + 1, w2.heap.size, _, rfl, rfl, rfl, (four w2 _ _ _ _ _).1, ⟨by omega, by omega, by omega, by omega⟩, ⟨by omega, by omega, by omega⟩, (four w2 _ _ _ _ _).2.2.1, (four w2 _ _ _ _ _).2.2.2.1, (four w2 _ _ _ _ _).2.1, (four w2 _ _ _ _ _).2.2.2.2⟩
      | exact ⟨w2.heap.size + 1 + 1, w2.heap.size, w2.heap.size + 1, _, rfl, rfl, rfl, (four w2 _ _ _ _ _).1, ⟨by omega, by omega, by omega, by omega⟩, ⟨by omega, by omega, by omega⟩, (four w2 _ _ _ _ _).2.2.2.1, (four w2 _ _ _ _ _).2.1, (four w2 _ _ _ _ _).2.2.1, (four w2 _ _ _ _ _).2.2.2.2⟩
      | exact ⟨w2.heap.size + 1 + 1, w2.heap.size + 1, w2.heap.size, _, rfl, rfl, rfl, (four w2 _ _ _ _ _).1, ⟨by omega, by omega, by omega, by omega⟩, ⟨by omega, by omega, by omega⟩, (four w2 _ _ _ _ _).2.2.2.1, (four w2 _ _ _ _ _).2.2.1, (four w2 _ _ _ _ _).2.1, (four w2 _ _ _ _ _).2.2.2.2⟩
  case rest =>
    obtain ⟨b0, b1, b2, L, rfl, rfl, rfl, hL⟩ := hcut
    have hB12 : Below w1.heap.size w1 w2 := W2.out ▸ below_alloc (Below.refl _ _) _
    have LW := Aside0.mk (Lit1.of hL hB12 Z2.out)
    have S1 := Aside0.mk (show w1.heap.size = w.heap.size + 1 by rw [W1.out]; simp)
    have R0 := Aside0.mk (show SD wc w.heap.size (okD w b0 b1 b2 L 0) (.slice (some ⟨w.heap.size + 1, 0, none⟩) 0 0) [] from empty_S ((hL.1.block _ (blk_lt K3.out)).trans K3.out) (by omega) ⟨⟨by omega, by have := LW.out.farL; omega⟩, fun t _ ht => by have := LW.out.far t ht; omega⟩)
    clear hL hB12
    go_wp2
    go_loopw [6, 38] (fun s6 s38 wr => ∃ k : Nat, k ≤ 3 ∧ s38 = .int .i64 k ∧ Aside0 (Lit1 w w1 wr b0 b1 b2 L i j m) ∧ Aside0 (SD wr w.heap.size (okD w b0 b1 b2 L k) s6 (((pairs i j m).take k).filter fun x => !(dropH l1 x)))) (fun _ s38 _ => 3 - (intOf s38).toNat)
    case atStart => exact ⟨0, by omega, rfl, LW, R0⟩
    case round =>
      obtain ⟨k, hk, rfl, LR, SR⟩ := hrel
      obtain ⟨A6, n6, hA6⟩ : ∃ A n, u6 = .slice A (((pairs i j m).take k).filter fun x => !(dropH l1 x)).length n := Kd.S_slice SR.out
      by_cases hlt : k < 3
      · have hltz : (k : Int) < 3 := by omega
        have hk0 : (0 : Int) ≤ (k : Int) := by omega
        have lc := LR.out.cell hlt
        have lx : wr.cell? ⟨bl b0 b1 b2 k, 0, none⟩ = some (.int .i64 (px i j m k)) := blk_cell (LR.out.at_ k hlt) 0
        have ly : wr.cell? ⟨bl b0 b1 b2 k, 1, none⟩ = some (.int .i64 (py i j m k)) := blk_cell (LR.out.at_ k hlt) 1
        have BR := Aside0.mk (Nat.lt_succ_self w.heap.size)
        have hbox := (LR.out.bel.block w.heap.size (by rw [S1.out]; omega)).trans (show w1.heap[w.heap.size]? = _ from (by rw [W1.out]; exact heap_alloc_new w _ : w1.heap[w.heap.size]? = some (.cells #[.int .i64 a0, .slice A1 l1.length c1, .slice (some ad2) l2.length c2, .slice A3 l3.length c3] 45 (0, 0))))
        have v0 : wr.cell? ⟨w.heap.size, 0, none⟩ = some (.int .i64 a0) := blk_cell hbox 0
        have v1 : wr.cell? ⟨w.heap.size, 1, none⟩ = some (.slice A1 l1.length c1) := blk_cell hbox 1
        have v2 : wr.cell? ⟨w.heap.size, 2, none⟩ = some (.slice (some ad2) l2.length c2) := blk_cell hbox 2
        have v3 : wr.cell? ⟨w.heap.size, 3, none⟩ = some (.slice A3 l3.length c3) := blk_cell hbox 3
        have BW := Aside0.mk (below_step B1.out LR.out.bel)
        have hin : (0 ≤ px i j m k ∧ px i j m k < (l1.length : Int)) ∧ 0 ≤ py i j m k ∧ py i j m k < (l1.length : Int) := by
          unfold px py
          refine ⟨?_, ?_⟩
          · split
            · exact ⟨i0, i1⟩
            · split
              · exact ⟨i0, i1⟩
              · exact ⟨j0, j1⟩
          · split
            · exact ⟨j0, j1⟩
            · split
              · exact ⟨m0, m1⟩
              · exact ⟨m0, m1⟩
        have HD := Aside0.mk (isDoor_h a0 l1 l2 l3 (px i j m k) (py i j m k) hin.1.1 hin.1.2 hin.2.1 hin.2.2)
        have HT := Aside0.mk (take_pairs i j m k hlt)
        have HDR := Aside0.mk (show (!(dropH l1 [px i j m k, py i j m k])) = hdoor (rd l1 (px i j m k)) (rd l1 (py i j m k)) by unfold dropH; rw [Bool.not_not]; rfl)
        have OS := Aside0.mk (okD_self LR.out hlt)
        have FL := Aside0.mk (List.length_filter_le (fun x => !(dropH l1 x)) ((pairs i j m).take k))
        have FT := Aside0.mk (show ((pairs i j m).take k).length ≤ 3 by rw [List.length_take]; exact Nat.min_le_right _ _)
        have HP := Aside0.mk (LR.out.at_ k hlt)
        clear hin hbox
        obtain ⟨bk, hbk⟩ : ∃ bk, bl b0 b1 b2 k = bk := ⟨_, rfl⟩
        obtain ⟨x, hxx⟩ : ∃ x, px i j m k = x := ⟨_, rfl⟩
        obtain ⟨y, hyy⟩ : ∃ y, py i j m k = y := ⟨_, rfl⟩
        rw [hbk] at lc lx ly HP OS
        rw [hxx] at lx HD HT HDR HP
        rw [hyy] at ly HD HT HDR HP
        have HBK := Aside0.mk hbk
        clear hbk hxx hyy
        have HSS := Aside0.mk (fun W (hW : Below wr.heap.size wr W) => And.intro hW (And.intro ((hW.cell (World.block_lt_of_cell? wr _ v0)).trans v0) (And.intro ((hW.cell (World.block_lt_of_cell? wr _ v1)).trans v1) (And.intro ((hW.cell (World.block_lt_of_cell? wr _ v2)).trans v2) (And.intro ((hW.cell (World.block_lt_of_cell? wr _ v3)).trans v3) (And.intro ((hW.cell (World.block_lt_of_cell? wr _ lx)).trans lx) ((hW.cell (World.block_lt_of_cell? wr _ ly)).trans ly)))))))
        obtain ⟨xs, hxs⟩ : ∃ xs, (((pairs i j m).take k).filter fun x => !(dropH l1 x)) = xs := ⟨_, rfl⟩
        rw [hxs] at SR FL hA6
        have HXS := Aside0.mk hxs
        clear hxs
        subst hA6
        cases hbb : hdoor (rd l1 x) (rd l1 y) with
        | true =>
          rw [hbb] at HD HDR
          have HBB := Aside0.mk hbb
          clear hbb
          go_upto_region 5 with fail
          go_region_held3 (fun w' => Below wr.heap.size wr w' ∧ w'.cell? ⟨w.heap.size, 0, none⟩ = some (.int .i64 a0) ∧ w'.cell? ⟨w.heap.size, 1, none⟩ = some (.slice A1 l1.length c1) ∧ w'.cell? ⟨w.heap.size, 2, none⟩ = some (.slice (some ad2) l2.length c2) ∧ w'.cell? ⟨w.heap.size, 3, none⟩ = some (.slice A3 l3.length c3) ∧ w'.cell? ⟨bk, 0, none⟩ = some (.int .i64 x) ∧ w'.cell? ⟨bk, 1, none⟩ = some (.int .i64 y))
            (first | exact HSS.out _ (below_drew (Below.refl _ _)) | exact HSS.out _ BZ.out)
            ((go_at_call 43; refine (impl_house_isDoor.calls a0 A1 c1 l1 (some ad2) c2 l2 A3 c3 l3 x y true _ (Kd.C_below HR1.out (below_drew BW.out)) C1.out (Kd.C_below HR2.out (below_drew BW.out)) C2.out (Kd.C_below HR3.out (below_drew BW.out)) C3.out HD.out).mono ?_; rintro e w' ⟨rfl, B2⟩; have BZ := Aside0.mk (below_step (below_drew (Below.refl wr.heap.size wr)) B2)))
          have LZ := Aside0.mk (LR.out.below BZ.out)
          have SZ := Aside0.mk (Kd.S_below SR.out BZ.out)
          have BWZ := Aside0.mk (below_step BW.out BZ.out)
          have HPZ := Aside0.mk ((BZ.out.block _ (blk_lt HP.out)).trans HP.out)
          clear BZ
          have FB := Aside0.mk (show w.heap.size ≤ bk by have := LZ.out.far k hlt; rw [HBK.out] at this; omega)
          have OKP := Aside0.mk (show ∀ z, z = bk → okD w b0 b1 b2 L (k + 1) z ∧ some z ≠ (Value.slice A6 xs.length n6).ownBlock from fun z hz => ⟨by rw [hz]; exact OS.out, fun he => by
            have := ((Kd.S_R SR.out).1 z he.symm).2 k (Nat.le_refl _) hlt
            rw [HBK.out] at this
            exact this hz⟩)
          have HNX := Aside0.mk (show ∀ z, okD w b0 b1 b2 L k z → okD w b0 b1 b2 L (k + 1) z ∧ ¬ z = bk from fun z hz => by have := okD_next z hz hlt; rw [HBK.out] at this; exact this)
          have HLN := Aside0.mk (show (xs.length + 1) * 24 ≤ 140737488355328 by have := FL.out; have := FT.out; omega)
          go_wp2_with (at_builtin; refine Kd.S_append (Kd.slice 3 (Kd.int .i64)) (w0 := w) w.heap.size rfl (.tmp 50) (.tmp 52) 36 22 (.slice none 0 0) 24 rfl Try.underlying36 infoS rfl (by decide) (by omega) (.slice A6 xs.length n6) xs [x, y] [.slice (some ⟨bk, 0, none⟩) 2 2] (okD w b0 b1 b2 L (k + 1)) (fun z => z = bk) rfl rfl ?hp ?hokp ?hfresh ?HO BWZ.out BWZ.out.size ?hl ?_; (case hp => exact ⟨_, rfl, pair_R HPZ.out FB.out rfl⟩); (case hokp => exact OKP.out); (case hfresh => exact fun z hz => okD_fresh LZ.out z hz); (case HO => exact Kd.S_mono SZ.out (fun z hz => HNX.out z hz)); (case hl => exact HLN.out); intro v1 wz ho hbw hgr hat; have HO1 := Aside0.mk ho; have HG1 := Aside0.mk hgr; clear ho hbw hgr hat)
          go_roundw
          case measure => simp [intOf]; omega
          case rel =>
            refine ⟨k + 1, by omega, by go_num, ⟨LZ.out.grown S1.out SZ.out HG1.out⟩, ⟨?_⟩⟩
            rw [HT.out, List.filter_append, HXS.out, List.filter_cons, HDR.out]
            rw [if_pos rfl, List.filter_nil]
            exact HO1.out
        | false =>
          rw [hbb] at HD HDR
          have HBB := Aside0.mk hbb
          clear hbb
          go_upto_region 5 with fail
          go_region_held3 (fun w' => Below wr.heap.size wr w' ∧ w'.cell? ⟨w.heap.size, 0, none⟩ = some (.int .i64 a0) ∧ w'.cell? ⟨w.heap.size, 1, none⟩ = some (.slice A1 l1.length c1) ∧ w'.cell? ⟨w.heap.size, 2, none⟩ = some (.slice (some ad2) l2.length c2) ∧ w'.cell? ⟨w.heap.size, 3, none⟩ = some (.slice A3 l3.length c3) ∧ w'.cell? ⟨bk, 0, none⟩ = some (.int .i64 x) ∧ w'.cell? ⟨bk, 1, none⟩ = some (.int .i64 y))
            (first | exact HSS.out _ (below_drew (Below.refl _ _)) | exact HSS.out _ BZ.out)
            ((go_at_call 43; refine (impl_house_isDoor.calls a0 A1 c1 l1 (some ad2) c2 l2 A3 c3 l3 x y false _ (Kd.C_below HR1.out (below_drew BW.out)) C1.out (Kd.C_below HR2.out (below_drew BW.out)) C2.out (Kd.C_below HR3.out (below_drew BW.out)) C3.out HD.out).mono ?_; rintro e w' ⟨rfl, B2⟩; have BZ := Aside0.mk (below_step (below_drew (Below.refl wr.heap.size wr)) B2)))
          have LZ := Aside0.mk (LR.out.below BZ.out)
          have SZ := Aside0.mk (Kd.S_below SR.out BZ.out)
          have HNX := Aside0.mk (show ∀ z, okD w b0 b1 b2 L k z → okD w b0 b1 b2 L (k + 1) z ∧ ¬ z = bk from fun z hz => by have := okD_next z hz hlt; rw [HBK.out] at this; exact this)
          clear BZ
          go_wp2
          go_roundw
          case measure => simp [intOf]; omega
          case rel =>
            refine ⟨k + 1, by omega, by go_num, LZ, ⟨?_⟩⟩
            rw [HT.out, List.filter_append, HXS.out, List.filter_cons, HDR.out]
            rw [if_neg (by decide), List.filter_nil, List.append_nil]
            exact Kd.S_mono SZ.out (fun z hz => (HNX.out z hz).1)
      · have hltz : ¬ (k : Int) < 3 := by omega
        have hk3 : k = 3 := by omega
        have HK := Aside0.mk hk3
        clear hk3
        subst hA6
        go_wp2
        go_ret
        refine ⟨_, rfl, ?_, below_step B1.out LR.out.bel⟩
        rw [← HFR.out]
        have h3 := SR.out
        rw [HK.out, show (pairs i j m).take 3 = pairs i j m from rfl] at h3 ⊢
        exact Kd.S_mono h3 (fun _ _ => trivial)
end Go.Proofs.Ytcnplmajlanmdaa.Given
