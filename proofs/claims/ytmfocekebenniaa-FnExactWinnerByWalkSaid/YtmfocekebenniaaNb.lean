/- rimmed.thirds by hand: the places near both places of a door; for all boards with sides of at most 30. -/
import Derived.Test.YtmfocekebenniaaNa
import Derived.Test.YtmfocekebenniaaQx5
namespace Go.Proofs.Ytmfocekebenniaa.Given
open Go.Proofs.Ytmfocekebenniaa.Q Go.RowKit Go.Proofs.YtmfocekebenniaaW.PrintWords Go.Proofs.YtmfocekebenniaaW.PrintLast Go.Proofs.YtmfocekebenniaaW.PrintMore
set_option linter.unusedVariables false
set_option linter.unusedSimpArgs false

def stR : Nat → Int
  | 0 => -1
  | 1 => -1
  | 2 => 0
  | 3 => 0
  | 4 => 1
  | _ => 1
def stC : Nat → Int
  | 0 => 0
  | 1 => 1
  | 2 => -1
  | 3 => 1
  | 4 => -1
  | _ => 0
theorem st_bd (k : Nat) : (-1 ≤ stR k ∧ stR k ≤ 1) ∧ (-1 ≤ stC k ∧ stC k ≤ 1) := by
  match k with
  | 0 => exact ⟨⟨by decide, by decide⟩, by decide, by decide⟩
  | 1 => exact ⟨⟨by decide, by decide⟩, by decide, by decide⟩
  | 2 => exact ⟨⟨by decide, by decide⟩, by decide, by decide⟩
  | 3 => exact ⟨⟨by decide, by decide⟩, by decide, by decide⟩
  | 4 => exact ⟨⟨by decide, by decide⟩, by decide, by decide⟩
  | n + 5 => exact ⟨⟨(by decide : (-1 : Int) ≤ 1), (by decide : (1 : Int) ≤ 1)⟩, (by decide : (-1 : Int) ≤ 0), (by decide : (0 : Int) ≤ 1)⟩
theorem rd_steps (k : Nat) (hk : k < 6) : rd_T76 steps6 (k : Int) = ⟨stR k, stC k⟩ := by
  match k, hk with
  | 0, _ => rfl
  | 1, _ => rfl
  | 2, _ => rfl
  | 3, _ => rfl
  | 4, _ => rfl
  | 5, _ => rfl
  | n + 6, h => omega
def tNear (x y : Int) : Bool := (x == -1 && y == 0) || (x == -1 && y == 1) || (x == 0 && y == -1) || (x == 0 && y == 1) || (x == 1 && y == -1) || (x == 1 && y == 0)
def tIn (R C a b : Int) : Bool := decide (-1 ≤ a ∧ a ≤ R ∧ -1 ≤ b ∧ b ≤ C)
def thirdsL (R C p0 p1 q0 q1 : Int) : Nat → List Pl
  | 0 => []
  | m + 1 => if tIn R C (p0 + stR m) (p1 + stC m) && tNear (q0 - (p0 + stR m)) (q1 - (p1 + stC m)) then thirdsL R C p0 p1 q0 q1 m ++ [⟨p0 + stR m, p1 + stC m⟩] else thirdsL R C p0 p1 q0 q1 m
theorem thirdsL_len (R C p0 p1 q0 q1 : Int) (m : Nat) : (thirdsL R C p0 p1 q0 q1 m).length ≤ m := by
  induction m with
  | zero => simp [thirdsL]
  | succ m ih =>
    unfold thirdsL
    split
    · simp; omega
    · omega

section
theorem ix_0 (k : Nat) (x y : Int) : slices_Index_2_int_2_int.l0 (k + 1) steps6 6 0 x y = if (x == -1 && y == 0) = true then some 0 else slices_Index_2_int_2_int.l0 k steps6 6 1 x y := by
  rw [slices_Index_2_int_2_int.l0, if_pos (by decide), if_pos (by decide), if_pos (by decide), show wrap64 (0 + 1) = 1 by unfold wrap64; omega, show rd_T76 steps6 0 = ⟨-1, 0⟩ from rfl]
theorem ix_1 (k : Nat) (x y : Int) : slices_Index_2_int_2_int.l0 (k + 1) steps6 6 1 x y = if (x == -1 && y == 1) = true then some 1 else slices_Index_2_int_2_int.l0 k steps6 6 2 x y := by
  rw [slices_Index_2_int_2_int.l0, if_pos (by decide), if_pos (by decide), if_pos (by decide), show wrap64 (1 + 1) = 2 by unfold wrap64; omega, show rd_T76 steps6 1 = ⟨-1, 1⟩ from rfl]
theorem ix_2 (k : Nat) (x y : Int) : slices_Index_2_int_2_int.l0 (k + 1) steps6 6 2 x y = if (x == 0 && y == -1) = true then some 2 else slices_Index_2_int_2_int.l0 k steps6 6 3 x y := by
  rw [slices_Index_2_int_2_int.l0, if_pos (by decide), if_pos (by decide), if_pos (by decide), show wrap64 (2 + 1) = 3 by unfold wrap64; omega, show rd_T76 steps6 2 = ⟨0, -1⟩ from rfl]
theorem ix_3 (k : Nat) (x y : Int) : slices_Index_2_int_2_int.l0 (k + 1) steps6 6 3 x y = if (x == 0 && y == 1) = true then some 3 else slices_Index_2_int_2_int.l0 k steps6 6 4 x y := by
  rw [slices_Index_2_int_2_int.l0, if_pos (by decide), if_pos (by decide), if_pos (by decide), show wrap64 (3 + 1) = 4 by unfold wrap64; omega, show rd_T76 steps6 3 = ⟨0, 1⟩ from rfl]
theorem ix_4 (k : Nat) (x y : Int) : slices_Index_2_int_2_int.l0 (k + 1) steps6 6 4 x y = if (x == 1 && y == -1) = true then some 4 else slices_Index_2_int_2_int.l0 k steps6 6 5 x y := by
  rw [slices_Index_2_int_2_int.l0, if_pos (by decide), if_pos (by decide), if_pos (by decide), show wrap64 (4 + 1) = 5 by unfold wrap64; omega, show rd_T76 steps6 4 = ⟨1, -1⟩ from rfl]
theorem ix_5 (k : Nat) (x y : Int) : slices_Index_2_int_2_int.l0 (k + 1) steps6 6 5 x y = if (x == 1 && y == 0) = true then some 5 else slices_Index_2_int_2_int.l0 k steps6 6 6 x y := by
  rw [slices_Index_2_int_2_int.l0, if_pos (by decide), if_pos (by decide), if_pos (by decide), show wrap64 (5 + 1) = 6 by unfold wrap64; omega, show rd_T76 steps6 5 = ⟨1, 0⟩ from rfl]
theorem ix_6 (k : Nat) (x y : Int) : slices_Index_2_int_2_int.l0 (k + 1) steps6 6 6 x y = some (-1) := by
  rw [slices_Index_2_int_2_int.l0, if_neg (by decide)]
theorem cont6 (x y : Int) : slices_Contains_2_int_2_int.f 7 steps6 x y = some (tNear x y) := by
  unfold slices_Contains_2_int_2_int.f slices_Index_2_int_2_int.f
  rw [show ((steps6.length : Nat) : Int) = 6 from rfl, ix_0, ix_1, ix_2, ix_3, ix_4, ix_5, ix_6]
  unfold tNear
  cases (x == -1 && y == 0)
  · cases (x == -1 && y == 1)
    · cases (x == 0 && y == -1)
      · cases (x == 0 && y == 1)
        · cases (x == 1 && y == -1)
          · cases (x == 1 && y == 0) <;> rfl
          · rfl
        · rfl
      · rfl
    · rfl
  · rfl
end
theorem near_f (p0 p1 q0 q1 : Int) (h0 : -100 ≤ q0 - p0 ∧ q0 - p0 ≤ 100) (h1 : -100 ≤ q1 - p1 ∧ q1 - p1 ≤ 100) : impl_areNear.f 7 p0 p1 q0 q1 = some (tNear (q0 - p0) (q1 - p1)) := by
  unfold impl_areNear.f
  rw [show wrap64 (q0 - p0) = q0 - p0 by unfold wrap64; omega, show wrap64 (q1 - p1) = q1 - p1 by unfold wrap64; omega]
  exact cont6 _ _
theorem has_f (R C : Int) (l : List Int) (a b : Int) : impl_rimmed_has.f R C l a b = some (tIn R C a b) := by
  unfold impl_rimmed_has.f impl_in.f tIn
  by_cases h1 : -1 ≤ a
  · by_cases h2 : a ≤ R
    · by_cases h3 : -1 ≤ b <;> simp [h1, h2, h3]
    · simp [h1, h2]
  · simp [h1]

theorem litP (w : World) (base : Nat) (ok : Nat → Prop) (h : base ≤ w.heap.size) (hk : ok w.heap.size) : Kd.R k76 38 (w.alloc (.cells #[] 38)) base ok (.slice (some ⟨w.heap.size, 0, none⟩) 0 0) ([] : List Pl) := by
  refine ⟨fun k hk' => ?_, [], ?_, ⟨rfl, fun j p hj => by simp at hj⟩⟩
  · have : w.heap.size = k := by simpa [Value.ownBlock] using hk'
    subst this
    exact hk
  · have h2 := World.ownsRow_lit (base := base) (e := 38) (size := (k76).sz) w #[] 0 h (by decide) (by simp)
    simpa using h2

theorem add_at (b m : Nat) : (⟨b, 0, none⟩ : Addr).add m = ⟨b, m, none⟩ := by by_cases h : m = 0 <;> simp [Addr.add, h]
theorem infoP : (Try.prog.info? 38).map (fun i => (i.zero, i.size, i.bytes)) = some (some (.agg #[.int .i64 0, .int .i64 0]), 2, 16) := by kernel_rfl
theorem C_keep {W W' : World} {b : Nat} (h : Kd.C k76 W (some ⟨b, 0, none⟩) 6 steps6) (hk : b < W.heap.size → W'.heap[b]? = W.heap[b]?) : Kd.C k76 W' (some ⟨b, 0, none⟩) 6 steps6 := by
  obtain ⟨h1, h2, h3⟩ := h
  refine ⟨h1, h2, fun hp => ?_⟩
  obtain ⟨ad, e, hr⟩ := h3 hp
  cases e
  refine ⟨_, rfl, fun j p hj => ?_⟩
  obtain ⟨c, hcl, hK, hc⟩ := hr j p hj
  refine ⟨c, hcl, ?_, fun i u hu => ?_⟩
  · obtain rfl := k76_open hK
    exact k76_mk _ _
  · have h9 := hc i u hu
    rw [add_at] at h9 ⊢
    have hl := World.block_lt_of_cell? W _ h9
    have : W'.cell? ⟨b, j * 2 + i, none⟩ = W.cell? ⟨b, j * 2 + i, none⟩ := by simp [World.cell?, hk hl]
    exact this.trans h9
/-- The three boxes. -/
def BxP (R C p0 p1 q0 q1 : Int) (A0 : Option Addr) (n0 c0 : Nat) (N : Nat) (W : World) : Prop :=
  W.heap[N]? = some (.cells #[.int .i64 R, .int .i64 C, .slice A0 n0 c0] 35 (0, 0)) ∧ W.heap[N + 1]? = some (.cells #[.int .i64 p0, .int .i64 p1] 38 (0, 0)) ∧ W.heap[N + 1 + 1]? = some (.cells #[.int .i64 q0, .int .i64 q1] 38 (0, 0))
theorem bx_new (R C p0 p1 q0 q1 : Int) (A0 : Option Addr) (n0 c0 : Nat) (w : World) (o : Obj) : BxP R C p0 p1 q0 q1 A0 n0 c0 w.heap.size ((((w.alloc (.cells #[.int .i64 R, .int .i64 C, .slice A0 n0 c0] 35)).alloc (.cells #[.int .i64 p0, .int .i64 p1] 38)).alloc (.cells #[.int .i64 q0, .int .i64 q1] 38)).alloc o) := by
  refine ⟨blk_alloc (blk_alloc (blk_alloc (blk_new _ _) _) _) _, blk_alloc (blk_alloc ?_ _) _, blk_alloc ?_ _⟩
  · have := blk_new (w.alloc (.cells #[.int .i64 R, .int .i64 C, .slice A0 n0 c0] 35)) (.cells #[.int .i64 p0, .int .i64 p1] 38)
    simpa using this
  · have := blk_new ((w.alloc (.cells #[.int .i64 R, .int .i64 C, .slice A0 n0 c0] 35)).alloc (.cells #[.int .i64 p0, .int .i64 p1] 38)) (.cells #[.int .i64 q0, .int .i64 q1] 38)
    simpa using this
theorem BxP.keep {R C p0 p1 q0 q1 : Int} {A0 : Option Addr} {n0 c0 N : Nat} {W W' : World} (h : BxP R C p0 p1 q0 q1 A0 n0 c0 N W) (hk : ∀ k, k < N + 3 → W'.heap[k]? = W.heap[k]?) : BxP R C p0 p1 q0 q1 A0 n0 c0 N W' :=
  ⟨(hk N (by omega)).trans h.1, (hk (N + 1) (by omega)).trans h.2.1, (hk (N + 1 + 1) (by omega)).trans h.2.2⟩
theorem BxP.lt {R C p0 p1 q0 q1 : Int} {A0 : Option Addr} {n0 c0 N : Nat} {W : World} (h : BxP R C p0 p1 q0 q1 A0 n0 c0 N W) : N + 2 < W.heap.size := blk_lt h.2.2
theorem BxP.below {R C p0 p1 q0 q1 : Int} {A0 : Option Addr} {n0 c0 N B : Nat} {W W' : World} (h : BxP R C p0 p1 q0 q1 A0 n0 c0 N W) (hb : Below B W W') (hB : N + 2 < B) : BxP R C p0 p1 q0 q1 A0 n0 c0 N W' :=
  h.keep fun k hk => hb.block k (by omega)

set_option maxHeartbeats 16000000 in
set_option maxRecDepth 100000 in
theorem thirds_calls (R C : Int) (hd : (1 ≤ R ∧ R ≤ 30) ∧ (1 ≤ C ∧ C ≤ 30)) (A0 : Option Addr) (c0 : Nat) (l0 : List Int) (p0 p1 q0 q1 : Int) (hb : (-1 ≤ p0 ∧ p0 ≤ 30) ∧ (-1 ≤ p1 ∧ p1 ≤ 30) ∧ (-1 ≤ q0 ∧ q0 ≤ 30) ∧ -1 ≤ q1 ∧ q1 ≤ 30) (w : World)
    (hr : Kd.C (Kd.int .i64) w A0 l0.length l0) (hc : l0.length ≤ c0) :
    Calls Try.prog 34 #[.agg #[.int .i64 R, .int .i64 C, .slice A0 l0.length c0], .agg #[.int .i64 p0, .int .i64 p1], .agg #[.int .i64 q0, .int .i64 q1]] w fun e w' => ∃ v, e = .returned v ∧ Kd.R k76 38 w' w.heap.size (fun _ => True) v (thirdsL R C p0 p1 q0 q1 6) ∧ Below w.heap.size w w' := by
  have hu1 := Try.underlying76
  have hu2 := Try.underlying38
  have hu3 := Try.underlying35
  have HR := Aside0.mk hr
  have HC := Aside0.mk hc
  clear hr hc
  obtain ⟨⟨r0, r1⟩, s0, s1⟩ := hd
  obtain ⟨⟨b0, b1⟩, ⟨b2, b3⟩, ⟨b4, b5⟩, b6, b7⟩ := hb
  go_enter Try.func34, Try.ntmps34
  go_wp2_with fail
  refine (impl_hexSteps2.calls _).mono ?_
  rintro e w6 ⟨bs, rfl, CS, B6, hgb⟩
  have BX0 := Aside0.mk (bx_new R C p0 p1 q0 q1 A0 l0.length c0 w (.cells #[] 38))
  have R0 := Aside0.mk (litP (((w.alloc (.cells #[.int .i64 R, .int .i64 C, .slice A0 l0.length c0] 35)).alloc (.cells #[.int .i64 p0, .int .i64 p1] 38)).alloc (.cells #[.int .i64 q0, .int .i64 q1] 38)) w.heap.size (fun k => w.heap.size + 2 < k ∧ k < w.heap.size + 4) (by simp; omega) (by simp))
  have B0 := Aside0.mk (below_alloc (below_alloc (below_alloc (below_alloc (Below.refl w.heap.size w) (.cells #[.int .i64 R, .int .i64 C, .slice A0 l0.length c0] 35)) (.cells #[.int .i64 p0, .int .i64 p1] 38)) (.cells #[.int .i64 q0, .int .i64 q1] 38)) (.cells #[] 38))
  have S0 := Aside0.mk (show ((((w.alloc (.cells #[.int .i64 R, .int .i64 C, .slice A0 l0.length c0] 35)).alloc (.cells #[.int .i64 p0, .int .i64 p1] 38)).alloc (.cells #[.int .i64 q0, .int .i64 q1] 38)).alloc (.cells #[] 38)).heap.size = w.heap.size + 4 by simp)
  generalize ((((w.alloc (.cells #[.int .i64 R, .int .i64 C, .slice A0 l0.length c0] 35)).alloc (.cells #[.int .i64 p0, .int .i64 p1] 38)).alloc (.cells #[.int .i64 q0, .int .i64 q1] 38)).alloc (.cells #[] 38)) = w5 at BX0 R0 B0 S0 B6 hgb
  have hgb2 : w.heap.size + 4 ≤ bs := by rw [← S0.out]; exact hgb
  have BX := Aside0.mk (BX0.out.below B6 (by rw [S0.out]; omega))
  have R0 := Aside0.mk (show Kd.R k76 38 w5 w.heap.size (fun k => w.heap.size + 2 < k ∧ k < w.heap.size + 4) (.slice (some ⟨w.heap.size + 1 + 1 + 1, 0, none⟩) 0 0) ([] : List Pl) by simpa using R0.out)
  have RO := Aside0.mk (Kd.R_mono (Kd.R_below R0.out B6) (fun k (hk : w.heap.size + 2 < k ∧ k < w.heap.size + 4) => (⟨hk.1, by omega⟩ : w.heap.size + 2 < k ∧ k ≠ bs)))
  have BB := Aside0.mk (below_step B0.out B6)
  have CS := Aside0.mk CS
  have HG := Aside0.mk hgb2
  clear B6 hgb hgb2 BX0 R0 B0 S0
  go_wp2
  go_loopg [7, 14] 6 (fun gg s7 s14 wr => ∃ kk : Nat, kk ≤ 6 ∧ 6 - kk ≤ gg ∧ s14 = .int .i64 kk ∧ Aside0 (Kd.R k76 38 wr w.heap.size (fun k => w.heap.size + 2 < k ∧ k ≠ bs) s7 (thirdsL R C p0 p1 q0 q1 kk)) ∧ Aside0 (Below w.heap.size w wr) ∧ Aside0 (BxP R C p0 p1 q0 q1 A0 l0.length c0 w.heap.size wr) ∧ Aside0 (Kd.C k76 wr (some ⟨bs, 0, none⟩) 6 steps6))
  case atStart => exact ⟨0, by omega, by omega, rfl, RO, BB, BX, CS⟩
  case round =>
    clear RO BB BX CS
    obtain ⟨kk, hk, hg, rfl, RO, BB, BX, CS⟩ := hrel
    by_cases hlt : kk < 6
    · have hltz : (kk : Int) < 6 := by omega
      have hb := st_bd kk
      have EX : Aside0 (thirdsL R C p0 p1 q0 q1 (kk + 1) = if tIn R C (p0 + stR kk) (p1 + stC kk) && tNear (q0 - (p0 + stR kk)) (q1 - (p1 + stC kk)) then thirdsL R C p0 p1 q0 q1 kk ++ [⟨p0 + stR kk, p1 + stC kk⟩] else thirdsL R C p0 p1 q0 q1 kk) := ⟨rfl⟩
      have LEN := Aside0.mk (Nat.le_trans (thirdsL_len R C p0 p1 q0 q1 kk) hk)
      obtain ⟨ad, ead, hx0, hx1⟩ := at_T76 CS.out (kk : Int) (by omega) (by omega)
      cases ead
      rw [rd_steps kk hlt] at hx0 hx1
      rw [Int.toNat_natCast] at hx0 hx1
      replace hx0 : wr.cell? ⟨bs, kk * 2, none⟩ = some (.int .i64 (stR kk)) := by rw [add_at] at hx0; exact hx0
      replace hx1 : wr.cell? ⟨bs, kk * 2 + 1, none⟩ = some (.int .i64 (stC kk)) := by rw [add_at] at hx1; exact hx1
      have I1 := Aside0.mk (has_f R C l0 (p0 + stR kk) (p1 + stC kk))
      have I2 := Aside0.mk (near_f (p0 + stR kk) (p1 + stC kk) q0 q1 (by omega) (by omega))
      generalize thirdsL R C p0 p1 q0 q1 kk = l at RO EX LEN
      generalize stR kk = sr at hx0 hx1 hb EX I1 I2
      generalize stC kk = sc at hx0 hx1 hb EX I1 I2
      obtain ⟨⟨b1', b2'⟩, b3', b4'⟩ := hb
      generalize tIn R C (p0 + sr) (p1 + sc) = t1 at I1 EX
      generalize tNear (q0 - (p0 + sr)) (q1 - (p1 + sc)) = t2 at I2 EX
      go_upto_region 5 with fail
      obtain ⟨W5, hW5⟩ : ∃ W5, W5 = wr.alloc (.cells #[.int .i64 sr, .int .i64 sc] 76) := ⟨_, rfl⟩
      have K5 := blk_new wr (.cells #[.int .i64 sr, .int .i64 sc] 76)
      rw [← hW5] at K5
      have RO := Aside0.mk (hW5 ▸ Kd.R_alloc RO.out (.cells #[.int .i64 sr, .int .i64 sc] 76))
      have BB := Aside0.mk (hW5 ▸ below_alloc BB.out (.cells #[.int .i64 sr, .int .i64 sc] 76))
      have CS := Aside0.mk (hW5 ▸ Kd.C_alloc CS.out (.cells #[.int .i64 sr, .int .i64 sc] 76))
      have BX := Aside0.mk (show BxP R C p0 p1 q0 q1 A0 l0.length c0 w.heap.size W5 by rw [hW5]; exact BX.out.keep (fun k hk => Below.heap_alloc wr (.cells #[.int .i64 sr, .int .i64 sc] 76) k (by have := BX.out.lt; omega)))
      rw [← hW5]
      clear hW5 hx0 hx1
      generalize wr.heap.size = zz at K5 ⊢
      have hs0 : W5.cell? ⟨zz, 0, none⟩ = some (.int .i64 sr) := (blk_cell K5 0).trans rfl
      have hs1 : W5.cell? ⟨zz, 1, none⟩ = some (.int .i64 sc) := (blk_cell K5 1).trans rfl
      have hy0 : W5.cell? ⟨w.heap.size + 1, 0, none⟩ = some (.int .i64 p0) := (blk_cell BX.out.2.1 0).trans rfl
      have hy1 : W5.cell? ⟨w.heap.size + 1, 1, none⟩ = some (.int .i64 p1) := (blk_cell BX.out.2.1 1).trans rfl
      go_upto_region 6 with fail
      obtain ⟨W6, hW6⟩ : ∃ W6, W6 = W5.alloc (.cells #[.int .i64 (p0 + sr), .int .i64 (p1 + sc)] 38) := ⟨_, rfl⟩
      have K6 := blk_new W5 (.cells #[.int .i64 (p0 + sr), .int .i64 (p1 + sc)] 38)
      rw [← hW6] at K6
      have RO := Aside0.mk (hW6 ▸ Kd.R_alloc RO.out (.cells #[.int .i64 (p0 + sr), .int .i64 (p1 + sc)] 38))
      have BB := Aside0.mk (hW6 ▸ below_alloc BB.out (.cells #[.int .i64 (p0 + sr), .int .i64 (p1 + sc)] 38))
      have CS := Aside0.mk (hW6 ▸ Kd.C_alloc CS.out (.cells #[.int .i64 (p0 + sr), .int .i64 (p1 + sc)] 38))
      have BX := Aside0.mk (show BxP R C p0 p1 q0 q1 A0 l0.length c0 w.heap.size W6 by rw [hW6]; exact BX.out.keep (fun k hk => Below.heap_alloc W5 (.cells #[.int .i64 (p0 + sr), .int .i64 (p1 + sc)] 38) k (by have := BX.out.lt; omega)))
      rw [← hW6]
      clear hW6 hs0 hs1 hy0 hy1 K5
      generalize W5.heap.size = zz6 at K6 ⊢
      have hs0 : W6.cell? ⟨zz6, 0, none⟩ = some (.int .i64 (p0 + sr)) := (blk_cell K6 0).trans rfl
      have hs1 : W6.cell? ⟨zz6, 1, none⟩ = some (.int .i64 (p1 + sc)) := (blk_cell K6 1).trans rfl
      have hy0 : W6.cell? ⟨w.heap.size, 0, none⟩ = some (.int .i64 R) := (blk_cell BX.out.1 0).trans rfl
      have hy1 : W6.cell? ⟨w.heap.size, 1, none⟩ = some (.int .i64 C) := (blk_cell BX.out.1 1).trans rfl
      have hy2 : W6.cell? ⟨w.heap.size, 2, none⟩ = some (.slice A0 l0.length c0) := (blk_cell BX.out.1 2).trans rfl
      cases t1 with
      | false =>
        simp only [Bool.false_and, Bool.false_eq_true, if_false] at EX
        go_wp2_with (go_at_call 46; refine (impl_rimmed_has.calls R C A0 c0 l0 (p0 + sr) (p1 + sc) false _ (by first | exact Kd.C_below HR.out BB.out | exact Kd.C_drewN (Kd.C_below HR.out BB.out) _) HC.out I1.out).mono ?_; rintro e w7 ⟨rfl, B7⟩; have L6 := BX.out.lt; have RO := Aside0.mk (Kd.R_below RO.out B7); have BB := Aside0.mk (below_step BB.out B7); have CS := Aside0.mk (Kd.C_below CS.out B7); have K7 := blk_below K6 B7; have BX := Aside0.mk (BX.out.below B7 L6); clear L6; have hw0 : w7.cell? ⟨zz6, 0, none⟩ = some (.int .i64 (p0 + sr)) := (blk_cell K7 0).trans rfl; have hw1 : w7.cell? ⟨zz6, 1, none⟩ = some (.int .i64 (p1 + sc)) := (blk_cell K7 1).trans rfl; have hq0 : w7.cell? ⟨w.heap.size + 1 + 1, 0, none⟩ = some (.int .i64 q0) := (blk_cell BX.out.2.2 0).trans rfl; have hq1 : w7.cell? ⟨w.heap.size + 1 + 1, 1, none⟩ = some (.int .i64 q1) := (blk_cell BX.out.2.2 1).trans rfl; clear B7)
        go_roundg (6 - (kk + 1))
        case measure => omega
        case rel => exact ⟨kk + 1, by omega, by omega, by go_num, ⟨by rw [EX.out]; exact RO.out⟩, BB, BX, CS⟩
      | true =>
        cases t2 with
        | false =>
          simp only [Bool.and_false, Bool.false_eq_true, if_false] at EX
          go_wp2_with (first | (go_at_call 46; refine (impl_rimmed_has.calls R C A0 c0 l0 (p0 + sr) (p1 + sc) true _ (by first | exact Kd.C_below HR.out BB.out | exact Kd.C_drewN (Kd.C_below HR.out BB.out) _) HC.out I1.out).mono ?_; rintro e w7 ⟨rfl, B7⟩; have L6 := BX.out.lt; have RO := Aside0.mk (Kd.R_below RO.out B7); have BB := Aside0.mk (below_step BB.out B7); have CS := Aside0.mk (Kd.C_below CS.out B7); have K7 := blk_below K6 B7; have BX := Aside0.mk (BX.out.below B7 L6); clear L6; have hw0 : w7.cell? ⟨zz6, 0, none⟩ = some (.int .i64 (p0 + sr)) := (blk_cell K7 0).trans rfl; have hw1 : w7.cell? ⟨zz6, 1, none⟩ = some (.int .i64 (p1 + sc)) := (blk_cell K7 1).trans rfl; have hq0 : w7.cell? ⟨w.heap.size + 1 + 1, 0, none⟩ = some (.int .i64 q0) := (blk_cell BX.out.2.2 0).trans rfl; have hq1 : w7.cell? ⟨w.heap.size + 1 + 1, 1, none⟩ = some (.int .i64 q1) := (blk_cell BX.out.2.2 1).trans rfl; clear B7) | (go_at_call 47; refine (impl_areNear.calls 7 (p0 + sr) (p1 + sc) q0 q1 false _ I2.out).mono ?_; rintro e w' ⟨rfl, B8⟩; have L7 := BX.out.lt; have RO := Aside0.mk (Kd.R_below RO.out B8); have BB := Aside0.mk (below_step BB.out B8); have CS := Aside0.mk (Kd.C_below CS.out B8); have K8 := blk_below K7 B8; have BX := Aside0.mk (BX.out.below B8 L7); clear L7; have hz0 : w'.cell? ⟨zz6, 0, none⟩ = some (.int .i64 (p0 + sr)) := (blk_cell K8 0).trans rfl; have hz1 : w'.cell? ⟨zz6, 1, none⟩ = some (.int .i64 (p1 + sc)) := (blk_cell K8 1).trans rfl; clear B8))
          go_roundg (6 - (kk + 1))
          case measure => omega
          case rel => exact ⟨kk + 1, by omega, by omega, by go_num, ⟨by rw [EX.out]; exact RO.out⟩, BB, BX, CS⟩
        | true =>
          simp only [Bool.and_true, if_true] at EX
          have FR := Aside0.mk (fun (W : World) (h : BxP R C p0 p1 q0 q1 A0 l0.length c0 w.heap.size W) (hc : Kd.C k76 W (some ⟨bs, 0, none⟩) 6 steps6) => show ∀ k, W.heap.size ≤ k → w.heap.size + 2 < k ∧ k ≠ bs from fun k hk => ⟨by have := h.lt; omega, by
            obtain ⟨ad, e, hx, _⟩ := at_T76 hc 0 (by omega) (by omega)
            cases e
            have h9 := World.block_lt_of_cell? W _ hx
            rw [add_at] at h9
            have h10 : bs < W.heap.size := h9
            omega⟩)
          go_wp2_with (first | (go_at_call 46; refine (impl_rimmed_has.calls R C A0 c0 l0 (p0 + sr) (p1 + sc) true _ (by first | exact Kd.C_below HR.out BB.out | exact Kd.C_drewN (Kd.C_below HR.out BB.out) _) HC.out I1.out).mono ?_; rintro e w7 ⟨rfl, B7⟩; have L6 := BX.out.lt; have RO := Aside0.mk (Kd.R_below RO.out B7); have BB := Aside0.mk (below_step BB.out B7); have CS := Aside0.mk (Kd.C_below CS.out B7); have K7 := blk_below K6 B7; have BX := Aside0.mk (BX.out.below B7 L6); clear L6; have hw0 : w7.cell? ⟨zz6, 0, none⟩ = some (.int .i64 (p0 + sr)) := (blk_cell K7 0).trans rfl; have hw1 : w7.cell? ⟨zz6, 1, none⟩ = some (.int .i64 (p1 + sc)) := (blk_cell K7 1).trans rfl; have hq0 : w7.cell? ⟨w.heap.size + 1 + 1, 0, none⟩ = some (.int .i64 q0) := (blk_cell BX.out.2.2 0).trans rfl; have hq1 : w7.cell? ⟨w.heap.size + 1 + 1, 1, none⟩ = some (.int .i64 q1) := (blk_cell BX.out.2.2 1).trans rfl; clear B7) | (go_at_call 47; refine (impl_areNear.calls 7 (p0 + sr) (p1 + sc) q0 q1 true _ I2.out).mono ?_; rintro e w' ⟨rfl, B8⟩; have L7 := BX.out.lt; have RO := Aside0.mk (Kd.R_below RO.out B8); have BB := Aside0.mk (below_step BB.out B8); have CS := Aside0.mk (Kd.C_below CS.out B8); have K8 := blk_below K7 B8; have BX := Aside0.mk (BX.out.below B8 L7); clear L7; have hz0 : w'.cell? ⟨zz6, 0, none⟩ = some (.int .i64 (p0 + sr)) := (blk_cell K8 0).trans rfl; have hz1 : w'.cell? ⟨zz6, 1, none⟩ = some (.int .i64 (p1 + sc)) := (blk_cell K8 1).trans rfl; clear B8); have FR := Aside0.mk (FR.out _ BX.out CS.out) | (at_builtin; go_loud (refine Kd.R_append k76 (w0 := w) w.heap.size rfl (.tmp 37) (.tmp 39) 55 38 (.agg #[.int .i64 0, .int .i64 0]) 16 rfl Try.underlying55 infoP rfl (by decide) (by omega) u7 l ⟨p0 + sr, p1 + sc⟩ [.int .i64 (p0 + sr), .int .i64 (p1 + sc)] (fun k => w.heap.size + 2 < k ∧ k ≠ bs) (fun _ => False) rfl rfl ?aP (fun _ hk => hk.elim) ?aF ?aO ?aB ?aS ?aL ?_; (case aP => exact k76_mkM _ _ _ ⟨p0 + sr, p1 + sc⟩); (case aB => exact BB.out); (case aF => exact FR.out); (case aO => exact RO.out); (case aS => exact BB.out.size); (case aL => have := LEN.out; omega); intro v220 w11 ho hb hg hat; have HO := Aside0.mk ho; have HBB := Aside0.mk hb; have HGR := Aside0.mk hg; clear ho hb hg hat)))
          have HK := Aside0.mk (fun (k : Nat) (hk : k < w.heap.size + 3 ∨ k = bs) (hl : k < w'.heap.size) => HGR.out.block k hl (fun he => by have := RO.out.1 k he.symm; omega))
          have BX := Aside0.mk (BX.out.keep (fun k hk => HK.out k (.inl hk) (by have := BX.out.lt; omega)))
          go_roundg (6 - (kk + 1))
          case measure => omega
          case rel => exact ⟨kk + 1, by omega, by omega, by go_num, ⟨by rw [EX.out]; exact HO.out⟩, HBB, BX, ⟨C_keep CS.out (fun hl => HK.out bs (.inr rfl) hl)⟩⟩
    · have hltz : ¬ (kk : Int) < 6 := by omega
      obtain rfl : kk = 6 := by omega
      go_wp2
      go_ret
      exact ⟨_, rfl, Kd.R_mono RO.out (fun _ _ => trivial), BB.out⟩
end Go.Proofs.Ytmfocekebenniaa.Given
