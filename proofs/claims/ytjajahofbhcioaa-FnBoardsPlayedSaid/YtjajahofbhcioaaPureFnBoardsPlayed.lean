/- Plain facts on the reference's reader of bytes: its choices lie in their ranges, for all bytes. Plain: the reference's draws of boards that are played end, for all bytes, with boards of at most 31 places. The law FnExactCountWins answers true for all ints: the program's CountWins and the reference's return the same. No condition. Plain: how many full boards a player has won: both players' counts together are all, and the board turned on its diagonal with players changed counts the same. The law FnBoardsPlayed answers true for all bytes: a move wins exactly if the other player cannot win behind it, and full boards are shared by both players. No condition. -/
import Derived.Test.YtjajahofbhcioaaQx1
import Derived.Test.YtjajahofbhcioaaJc
import Derived.Test.YtjajahofbhcioaaPuAx
import Derived.Test.YtjajahofbhcioaaQx6
import Derived.Test.YtjajahofbhcioaaGu
import Derived.Test.YtjajahofbhcioaaLwBoards
import Derived.Test.YtjajahofbhcioaaPghX
namespace Go.Proofs.Ytjajahofbhcioaa.Pj
open Go.RowKit Go.Proofs.Ytjajahofbhcioaa.Q Go.Proofs.YtjajahofbhcioaaW.PrintWords Go.Proofs.YtjajahofbhcioaaW.PrintLast
set_option linter.unusedVariables false
set_option linter.unusedSimpArgs false

theorem wr {x : Int} (h0 : -9223372036854775808 ≤ x) (h1 : x ≤ 9223372036854775807) : wrap64 x = x := by unfold wrap64; omega
def Bytes (l : List Int) : Prop := ∀ x ∈ l, 0 ≤ x ∧ x ≤ 255
theorem bytes_of {l : List Int} (h : ∀ x ∈ l, (Lit.int .u8 x).wf = true) : Bytes l := by
  intro x hx
  have := h x hx
  simp [Lit.wf, IntKind.min, IntKind.max, IntKind.signed, IntKind.bits] at this
  omega
theorem and255 (x : Int) : 0 ≤ Go.bits .and .u64 x 255 ∧ Go.bits .and .u64 x 255 ≤ 255 := by
  have h : Go.bits .and .u64 x 255 = IntKind.u64.wrap ((BitVec.ofInt 64 x &&& BitVec.ofInt 64 255).toNat : Int) := rfl
  rw [h, BitVec.toNat_and]
  have h2 : (BitVec.ofInt 64 x).toNat &&& (BitVec.ofInt 64 255).toNat ≤ 255 := Nat.le_trans Nat.and_le_right (by decide)
  generalize (BitVec.ofInt 64 x).toNat &&& (BitVec.ofInt 64 255).toNat = m at h2
  rw [IntKind.wrap_u64]
  omega
theorem rd_byte {l : List Int} (h : Bytes l) (i : Int) : 0 ≤ rd l i ∧ rd l i ≤ 255 := by
  unfold rd
  rw [List.getD_eq_getElem?_getD]
  cases e : l[i.toNat]? with
  | none => simp
  | some y => exact h y (List.mem_of_getElem? e)
theorem w255 {x : Int} (h : 0 ≤ x ∧ x ≤ 255) : 0 ≤ wrap64 x ∧ wrap64 x ≤ 255 := by rw [wr (by omega) (by omega)]; exact h

theorem next_ok {l : List Int} (hl : Bytes l) (s1 s2 : Int) (h0 : 0 ≤ s1) (h1 : s1 ≤ 1099511627776) : ∃ b s3, spec_l1Cur_next.f l s1 s2 = some (b, s1 + 1, s3) ∧ 0 ≤ b ∧ b ≤ 255 := by
  have hw : wrap64 (s1 + 1) = s1 + 1 := wr (by omega) (by omega)
  unfold spec_l1Cur_next.f
  rw [hw]
  by_cases c : s1 < (l.length : Int)
  · rw [if_pos c, if_pos h0, if_pos (by omega)]
    exact ⟨_, _, rfl, w255 (rd_byte hl s1)⟩
  · rw [if_neg c, if_neg (by omega)]
    exact ⟨_, _, rfl, w255 (and255 _)⟩

theorem pick_ok {l : List Int} (hl : Bytes l) (s1 s2 m : Int) (h0 : 0 ≤ s1) (h1 : s1 ≤ 1099511627000) : ∃ t s1' s2', spec_l1Cur_pick.f l s1 s2 m = some (t, s1', s2') ∧ 0 ≤ t ∧ (1 < m → t < m) ∧ (m ≤ 1 → t = 0) ∧ s1 ≤ s1' ∧ s1' ≤ s1 + 2 := by
  unfold spec_l1Cur_pick.f
  by_cases c : m ≤ 1
  · rw [if_pos c]
    exact ⟨_, _, _, rfl, Int.le_refl _, fun h => by omega, fun _ => rfl, Int.le_refl _, by omega⟩
  · obtain ⟨b, s3, e, b0, b1⟩ := next_ok hl s1 s2 h0 (by omega)
    rw [if_neg c, e, Option.bind_some]
    by_cases c2 : m > 200
    · obtain ⟨b', s4, e', b0', b1'⟩ := next_ok hl (s1 + 1) s3 (by omega) (by omega)
      simp only
      rw [if_pos c2, e', Option.bind_some, if_neg (by omega)]
      have w1 : wrap64 (b * 256) = b * 256 := wr (by omega) (by omega)
      have w2 : wrap64 (b * 256 + b') = b * 256 + b' := wr (by omega) (by omega)
      simp only [w1, w2]
      rw [Int.tmod_eq_emod_of_nonneg (by omega)]
      exact ⟨_, _, _, rfl, Int.emod_nonneg _ (by omega), fun _ => Int.emod_lt_of_pos _ (by omega), fun h => by omega, by omega, by omega⟩
    · simp only
      rw [if_neg c2, if_neg (by omega), Int.tmod_eq_emod_of_nonneg (by omega)]
      exact ⟨_, _, _, rfl, Int.emod_nonneg _ (by omega), fun _ => Int.emod_lt_of_pos _ (by omega), fun h => by omega, by omega, by omega⟩
end Go.Proofs.Ytjajahofbhcioaa.Pj

namespace Go.Proofs.Ytjajahofbhcioaa.Pyb
open Go.RowKit Go.Proofs.Ytjajahofbhcioaa.Q Go.Proofs.Ytjajahofbhcioaa.Given Go.Proofs.Ytjajahofbhcioaa.Pj Go.Proofs.YtjajahofbhcioaaW.PrintWords Go.Proofs.YtjajahofbhcioaaW.PrintLast
set_option linter.unusedVariables false
set_option linter.unusedSimpArgs false

theorem one_ok {l : List Int} (hl : Bytes l) (s1 s2 m : Int) (h0 : 0 ≤ s1) (h1 : s1 ≤ 1099511627000) : ∃ b s1' s2', spec_l1Cur_one.f l s1 s2 m = some (b, s1', s2') ∧ s1 ≤ s1' ∧ s1' ≤ s1 + 2 := by
  obtain ⟨t, a, b, e, _, _, _, h2, h3⟩ := pick_ok hl s1 s2 m h0 h1
  exact ⟨_, _, _, by unfold spec_l1Cur_one.f; rw [e, Option.bind_some], h2, h3⟩
theorem among_ok {l : List Int} (hl : Bytes l) (s1 s2 : Int) (c : List Int) (hc : 0 < c.length) (h0 : 0 ≤ s1) (h1 : s1 ≤ 1099511627000) : ∃ v s1' s2', spec_l1Cur_among.f l s1 s2 c = some (v, s1', s2') ∧ s1 ≤ s1' ∧ s1' ≤ s1 + 2 := by
  obtain ⟨t, a, b, e, h2, h3, h4, h5, h6⟩ := pick_ok hl s1 s2 (c.length : Int) h0 h1
  have ht : t < (c.length : Int) := by
    by_cases h : (1 : Int) < (c.length : Int)
    · exact h3 h
    · have := h4 (by omega); omega
  exact ⟨_, _, _, by unfold spec_l1Cur_among.f; rw [e, Option.bind_some, if_pos h2, if_pos ht], h5, h6⟩
theorem wi1 {i : Nat} (h : i ≤ 30) : wrap64 ((i : Int) + 1) = ((i + 1 : Nat) : Int) := by rw [wr (by omega) (by omega)]; omega
theorem small {n : Nat} (h : n ≤ 30) : n < 17592186044416 := by omega
/-- It ends. -/
def Tot (F : Nat → Option (List Int × Int × Int)) : Prop := ∃ (K : Nat) (r : List Int × Int × Int), (r.1.length ≤ 31 ∧ 0 ≤ r.2.1 ∧ r.2.1 ≤ 1000) ∧ ∀ k, K ≤ k → F k = some r
theorem Tot.s {F F' : Nat → Option (List Int × Int × Int)} (h : Tot F) (e : ∀ k, F' (k + 1) = F k) : Tot F' := by
  obtain ⟨K, r, hr, hk⟩ := h
  refine ⟨K + 1, r, hr, fun k hkk => ?_⟩
  obtain ⟨k, rfl⟩ : ∃ m, k = m + 1 := ⟨k - 1, by omega⟩
  rw [e k]
  exact hk k (by omega)
theorem Tot.one {F : Nat → Option (List Int × Int × Int)} (v : Option (List Int × Int × Int)) (hv : ∃ r : List Int × Int × Int, (r.1.length ≤ 31 ∧ 0 ≤ r.2.1 ∧ r.2.1 ≤ 1000) ∧ v = some r) (e : ∀ k, F (k + 1) = v) : Tot F := by
  obtain ⟨r, hr, hv⟩ := hv
  refine ⟨1, r, hr, fun k hkk => ?_⟩
  obtain ⟨k, rfl⟩ : ∃ m, k = m + 1 := ⟨k - 1, by omega⟩
  rw [e k, hv]
section
variable {l : List Int}
theorem last_ok (hl : Bytes l) (x : List Int) (hx : x.length ≤ 30) (s1 s2 : Int) (h0 : 0 ≤ s1) (h2 : s1 ≤ 900) : ∃ r : List Int × Int × Int, (r.1.length ≤ 31 ∧ 0 ≤ r.2.1 ∧ r.2.1 ≤ 1000) ∧
    ((spec_l1Cur_one.f l s1 s2 30).bind fun bt264 => (if bt264.1 = true then (if x.length < 17592186044416 then (some ((x ++ [1]), bt264.2.1, bt264.2.2)) else (none)) else (some (x, bt264.2.1, bt264.2.2)))) = some r := by
  obtain ⟨o, s3, s4, e1, a1, a2⟩ := one_ok hl s1 s2 30 h0 (by omega)
  rw [e1, Option.bind_some]
  cases o with
  | true =>
    refine ⟨_, ?_, by rw [if_pos rfl, if_pos (small hx)]⟩
    simp only [List.length_append, List.length_cons, List.length_nil]
    omega
  | false =>
    refine ⟨_, ?_, by rw [if_neg (by simp)]⟩
    simp only
    omega
theorem j2_tot (hl : Bytes l) (x : List Int) (o : Bool) (hx : x.length ≤ 30) (ho : o = true → 0 < x.length) (s1 s2 : Int) (h0 : 0 ≤ s1) (h2 : s1 ≤ 800) : Tot (fun k => spec_l1Cur_board.j2 k x o l s1 s2) := by
  cases o with
  | false =>
    refine Tot.one _ (last_ok hl x hx s1 s2 h0 (by omega)) (fun k => ?_)
    rw [spec_l1Cur_board.j2, if_neg (by simp)]
  | true =>
    have hp := ho rfl
    obtain ⟨u, a3, a4, e2, u0, u1, u2, b3, b4⟩ := pick_ok hl s1 s2 (x.length : Int) (by omega) (by omega)
    obtain ⟨v, a5, a6, e3, b5, b6⟩ := among_ok hl a3 a4 [(-1), 0, 3, 4611686018427387904] (by simp) (by omega) (by omega)
    have hu : u < (x.length : Int) := by
      by_cases h : (1 : Int) < (x.length : Int)
      · exact u1 h
      · have := u2 (by omega); omega
    refine Tot.one _ (last_ok hl (x.set (u : Int).toNat v) (by rw [List.length_set]; exact hx) a5 a6 (by omega) (by omega)) (fun k => ?_)
    rw [spec_l1Cur_board.j2, if_pos rfl, e2, Option.bind_some]
    simp only [e3, Option.bind_some]
    rw [if_pos u0, if_pos hu]
theorem j1_tot (hl : Bytes l) (x : List Int) (hx : x.length ≤ 30) (s1 s2 : Int) (h0 : 0 ≤ s1) (h2 : s1 ≤ 700) : Tot (fun k => spec_l1Cur_board.j1 k x l s1 s2) := by
  by_cases h : (x.length : Int) > 0
  · obtain ⟨o, s3, s4, e1, a1, a2⟩ := one_ok hl s1 s2 20 h0 (by omega)
    refine (j2_tot hl x o hx (fun _ => by omega) s3 s4 (by omega) (by omega)).s (fun k => ?_)
    rw [spec_l1Cur_board.j1, if_pos h, e1, Option.bind_some]
  · refine (j2_tot hl x false hx (fun h => by cases h) s1 s2 (by omega) (by omega)).s (fun k => ?_)
    rw [spec_l1Cur_board.j1, if_neg h]
set_option maxHeartbeats 4000000 in
theorem l0_tot (hl : Bytes l) {a c m : Int} {N : Nat} (hN : N ≤ 30) (hw : wrap64 (a * c) = (N : Int)) (d : Nat) : ∀ (i : Nat) (x : List Int) (s1 s2 : Int), i + d = N → x.length = i → 0 ≤ s1 → s1 + 4 * (d : Int) ≤ 600 → Tot (fun k => spec_l1Cur_board.l0 k a c m x (i : Int) l s1 s2) := by
  have HW := Aside0.mk hw
  clear hw
  induction d with
  | zero =>
    intro i x s1 s2 hi hx h0 h2
    refine (j1_tot hl x (by omega) s1 s2 h0 (by omega)).s (fun k => ?_)
    rw [spec_l1Cur_board.l0, HW.out, if_neg (by omega)]
  | succ d ih =>
    intro i x s1 s2 hi hx h0 h2
    obtain ⟨t, s3, s4, e1, _, _, _, a1, a2⟩ := pick_ok hl s1 s2 2 h0 (by omega)
    obtain ⟨u, s5, s6, e2, _, _, _, a3, a4⟩ := pick_ok hl s3 s4 10 (by omega) (by omega)
    have hlt : (i : Int) < (N : Int) := by omega
    have hxs : x.length ≤ 30 := by omega
    have hxl : x.length < 17592186044416 := small hxs
    have hwi : wrap64 ((i : Int) + 1) = ((i + 1 : Nat) : Int) := wi1 (by omega)
    have q1 : (i + 1) + d = N := by omega
    have q2 : 0 ≤ s5 := by omega
    have q3 : s5 + 4 * (d : Int) ≤ 600 := by omega
    by_cases h : u < m
    · have h1 := ih (i + 1) (x ++ [0]) s5 s6 q1 (by simp [hx]) q2 q3
      rw [← hwi] at h1
      refine h1.s (fun k => ?_)
      show spec_l1Cur_board.l0 (k + 1) a c m x (i : Int) l s1 s2 = _
      rw [spec_l1Cur_board.l0, HW.out, if_pos hlt, e1, Option.bind_some, e2, Option.bind_some, if_pos h, if_pos hxl]
    · have h1 := ih (i + 1) (x ++ [wrap64 (1 + t)]) s5 s6 q1 (by simp [hx]) q2 q3
      rw [← hwi] at h1
      refine h1.s (fun k => ?_)
      show spec_l1Cur_board.l0 (k + 1) a c m x (i : Int) l s1 s2 = _
      rw [spec_l1Cur_board.l0, HW.out, if_pos hlt, e1, Option.bind_some, e2, Option.bind_some, if_neg h, if_pos hxl]
theorem board_tot (hl : Bytes l) (a c m s1 s2 : Int) (h0 : 0 ≤ s1) (h2 : s1 ≤ 100) : Tot (fun k => spec_l1Cur_board.f k l s1 s2 a c m) := by
  cases hs : Go.Proofs.Ytjajahofbhcioaa.Ph.hshape a c with
  | false =>
    obtain ⟨K, r, hr, hk⟩ := j1_tot hl [] (by simp) s1 s2 h0 (by omega)
    refine ⟨K, r, hr, fun k hkk => ?_⟩
    have h1 := hk k hkk
    show spec_l1Cur_board.f k l s1 s2 a c m = some r
    unfold spec_l1Cur_board.f
    rw [Go.Proofs.Ytjajahofbhcioaa.Ph.hxSides_f, hs, Option.bind_some, if_neg (by simp)]
    exact h1
  | true =>
    obtain ⟨r, q, _, _, _, _, h30, hw⟩ := Go.Proofs.Ytjajahofbhcioaa.Pu.shape_nat hs
    obtain ⟨K, r, hr, hk⟩ := l0_tot hl (m := m) h30 hw (r * q) 0 [] s1 s2 (by omega) rfl h0 (by omega)
    refine ⟨K, r, hr, fun k hkk => ?_⟩
    have h1 := hk k hkk
    show spec_l1Cur_board.f k l s1 s2 a c m = some r
    unfold spec_l1Cur_board.f
    rw [Go.Proofs.Ytjajahofbhcioaa.Ph.hxSides_f, hs, Option.bind_some, if_pos rfl]
    exact h1
theorem wz {x : Nat} (h : x ≤ 100) : wrap64 ((x : Int) + 1) = ((x + 1 : Nat) : Int) := by unfold wrap64; omega
theorem free_s (l : List Int) (hl : l.length ≤ 31) (d : Nat) : ∀ (i x k : Nat), i + d = l.length → x ≤ i → d < k → ∃ v, spec_hxFree.l0 k (x : Int) l (l.length : Int) (i : Int) = some v := by
  induction d with
  | zero =>
    intro i x k hi hx hk
    obtain ⟨k, rfl⟩ : ∃ m, k = m + 1 := ⟨k - 1, by omega⟩
    exact ⟨_, by rw [spec_hxFree.l0, if_neg (by omega)]⟩
  | succ d ih =>
    intro i x k hi hx hk
    obtain ⟨k, rfl⟩ : ∃ m, k = m + 1 := ⟨k - 1, by omega⟩
    by_cases h0 : rd l (i : Nat) = 0
    · obtain ⟨v, hv⟩ := ih (i + 1) (x + 1) k (by omega) (by omega) (by omega)
      exact ⟨v, by rw [spec_hxFree.l0, if_pos (by omega), if_pos (by omega), if_pos (by omega), if_pos h0, wz (by omega), wz (by omega), hv]⟩
    · obtain ⟨v, hv⟩ := ih (i + 1) x k (by omega) (by omega) (by omega)
      exact ⟨v, by rw [spec_hxFree.l0, if_pos (by omega), if_pos (by omega), if_pos (by omega), if_neg h0, wz (by omega), hv]⟩
theorem free_f (l : List Int) (hl : l.length ≤ 31) : ∃ v, ∀ k, 32 ≤ k → spec_hxFree.f k l = some v := by
  obtain ⟨v, hv⟩ := free_s l hl l.length 0 0 32 (by omega) (by omega) (by omega)
  refine ⟨v, fun k hk => ?_⟩
  have h : spec_hxFree.f 32 l = some v := by unfold spec_hxFree.f; exact_mod_cast hv
  exact at_rounds (fun k => spec_hxFree.mono _ k) hk h
theorem fix_tot (hl : Bytes l) (d : Nat) : ∀ (i : Nat) (x : List Int) (s1 s2 : Int), i + d = x.length → x.length ≤ 31 → 0 ≤ s1 → s1 + 2 * (d : Int) ≤ 2000 →
    ∃ (K : Nat) (r : List Int × Int × Int), (r.1.length ≤ 31 ∧ 0 ≤ r.2.1 ∧ r.2.1 ≤ 2000) ∧ ∀ k, K ≤ k → drawFix.l0 k l x (i : Int) s1 s2 = some r := by
  induction d with
  | zero =>
    intro i x s1 s2 hi hx h0 h2
    refine ⟨1, (x, s1, s2), ⟨hx, h0, by show s1 ≤ 2000; omega⟩, fun k hk => ?_⟩
    obtain ⟨k, rfl⟩ : ∃ m, k = m + 1 := ⟨k - 1, by omega⟩
    rw [drawFix.l0, if_neg (by omega)]
  | succ d ih =>
    intro i x s1 s2 hi hx h0 h2
    obtain ⟨t, ht⟩ := free_f x hx
    obtain ⟨u, s3, s4, e1, _, _, _, a1, a2⟩ := pick_ok hl s1 s2 2 h0 (by omega)
    have hw := wz (x := i) (by omega)
    by_cases c3 : t > 6
    · by_cases c4 : rd x (i : Nat) = 0
      · obtain ⟨K, r, hr, hk⟩ := ih (i + 1) (x.set i (wrap64 (1 + u))) s3 s4 (by rw [List.length_set]; omega) (by rw [List.length_set]; exact hx) (by omega) (by omega)
        refine ⟨K + 33, r, hr, fun k hkk => ?_⟩
        obtain ⟨k, rfl⟩ : ∃ m, k = m + 1 := ⟨k - 1, by omega⟩
        rw [drawFix.l0, if_pos (by omega), if_pos (by omega), ht k (by omega), Option.bind_some, if_pos c3, if_pos c4, e1, Option.bind_some, Int.toNat_natCast, hw]
        exact hk k (by omega)
      · obtain ⟨K, r, hr, hk⟩ := ih (i + 1) x s1 s2 (by omega) hx (by omega) (by omega)
        refine ⟨K + 33, r, hr, fun k hkk => ?_⟩
        obtain ⟨k, rfl⟩ : ∃ m, k = m + 1 := ⟨k - 1, by omega⟩
        rw [drawFix.l0, if_pos (by omega), if_pos (by omega), ht k (by omega), Option.bind_some, if_pos c3, if_neg c4, hw]
        exact hk k (by omega)
    · obtain ⟨K, r, hr, hk⟩ := ih (i + 1) x s1 s2 (by omega) hx (by omega) (by omega)
      refine ⟨K + 33, r, hr, fun k hkk => ?_⟩
      obtain ⟨k, rfl⟩ : ∃ m, k = m + 1 := ⟨k - 1, by omega⟩
      rw [drawFix.l0, if_pos (by omega), if_pos (by omega), ht k (by omega), Option.bind_some, if_neg c3, hw]
      exact hk k (by omega)
/-- The draw of a board that is played ends. -/
theorem drawWins_tot (hl : Bytes l) : ∃ (K : Nat) (a c : Int) (b : List Int) (p : Int), b.length ≤ 31 ∧ ∀ k, K ≤ k → spec_DrawWinsMoving.f k l = some (a, c, b, p) := by
  obtain ⟨t, s1, s2, e1, _, _, _, a1, a2⟩ := pick_ok hl 0 0 3 (by omega) (by omega)
  obtain ⟨u, s3, s4, e2, _, _, _, a3, a4⟩ := pick_ok hl s1 s2 3 (by omega) (by omega)
  obtain ⟨K1, b, hb, hk1⟩ := board_tot hl (wrap64 (1 + t)) (wrap64 (1 + u)) 6 s3 s4 (by omega) (by omega)
  obtain ⟨K2, x, hx, hk2⟩ := fix_tot hl b.1.length 0 b.1 b.2.1 b.2.2 (by omega) hb.1 hb.2.1 (by omega)
  obtain ⟨o, s5, s6, e3, a5, a6⟩ := one_ok hl x.2.1 x.2.2 20 hx.2.1 (by omega)
  obtain ⟨v, s7, s8, e4, _, _⟩ := among_ok hl s5 s6 [1, 2, 1, 2, 1, 2, 1, 2, 0, 3] (by simp) (by omega) (by omega)
  have main : ∀ k, K1 + K2 ≤ k → spec_DrawWinsMoving.f k l = if o = true then some (2, 5, List.replicate 10 0, v) else some (wrap64 (1 + t), wrap64 (1 + u), x.1, v) := fun k hk => by
    have h1 := hk1 k (by omega)
    have h2 := hk2 k (by omega)
    simp only at h1
    unfold spec_DrawWinsMoving.f
    rw [e1, Option.bind_some]
    simp only [e2, Option.bind_some, h1]
    rw [show ((0 : Nat) : Int) = 0 from rfl] at h2
    simp only [h2, Option.bind_some, e3, e4]
  cases o with
  | true => exact ⟨K1 + K2, 2, 5, List.replicate 10 0, v, by simp, fun k hk => by rw [main k hk, if_pos rfl]⟩
  | false => exact ⟨K1 + K2, _, _, x.1, v, hx.1, fun k hk => by rw [main k hk, if_neg (by decide)]⟩
end
/-- The draw of what is counted ends. -/
theorem drawCount_ok {l : List Int} (hl : Bytes l) : ∃ r c w, spec_DrawCountWins.f l = some (r, c, w) := by
  obtain ⟨v, s5, s6, e3, a5, a6⟩ := among_ok hl 0 0 [1, 2, 3, 3, 4, 0] (by simp) (by omega) (by omega)
  obtain ⟨u, s7, s8, e4, a7, a8⟩ := among_ok hl s5 s6 [1, 2, 3, 2, 9, 10] (by simp) (by omega) (by omega)
  obtain ⟨t, s9, s0, e5, _, _⟩ := among_ok hl s7 s8 [1, 2, 1, 2, 0, 3] (by simp) (by omega) (by omega)
  unfold spec_DrawCountWins.f
  rw [e3, Option.bind_some]
  simp only [e4, e5, Option.bind_some]
  exact ⟨_, _, _, rfl⟩
end Go.Proofs.Ytjajahofbhcioaa.Pyb

namespace Go.Proofs.Ytjajahofbhcioaa.Pure
open Go.RowKit Go.Proofs.Ytjajahofbhcioaa.Q Go.Proofs.Ytjajahofbhcioaa.Given Go.Proofs.Ytjajahofbhcioaa.Pz Go.Proofs.Ytjajahofbhcioaa.Pm Go.Proofs.Ytjajahofbhcioaa.Ph Go.Proofs.YtjajahofbhcioaaW.PrintWords Go.Proofs.YtjajahofbhcioaaW.PrintLast
set_option linter.unusedVariables false
set_option linter.unusedSimpArgs false

namespace CountWins
open Go.Proofs.Ytjajahofbhcioaa.Pu Go.Proofs.Ytjajahofbhcioaa.Pq Go.Proofs.Ytjajahofbhcioaa.Pt Go.Proofs.Ytjajahofbhcioaa.Pw
theorem ev_s {α : Type} {g f : Nat → Option α} {v : α} (h : ∀ k, g (k + 1) = f k) (hf : ∃ K, ∀ k, K ≤ k → f k = some v) : ∃ K, ∀ k, K ≤ k → g k = some v := by
  obtain ⟨K, hK⟩ := hf
  refine ⟨K + 1, fun k hk => ?_⟩
  obtain ⟨m, rfl⟩ : ∃ m, k = m + 1 := ⟨k - 1, by omega⟩
  rw [h m]
  exact hK m (by omega)
def bitChk : Bool := (List.range 512).all fun m => (List.range 9).all fun i => wrap64 (1 + Go.bits .and .i64 (shr .i64 (m : Nat) (i : Nat)) 1) == 1 + ((m : Nat) : Int) / 2 ^ i % 2
set_option maxRecDepth 1000000 in
theorem bit_chk : bitChk = true := by decide +kernel
theorem bit_of {m i : Nat} (hm : m < 512) (hi : i < 9) : wrap64 (1 + Go.bits .and .i64 (shr .i64 (m : Int) (i : Int)) 1) = 1 + (m : Int) / 2 ^ i % 2 := by
  have h := bit_chk
  unfold bitChk at h
  simp only [List.all_eq_true, List.mem_range, beq_iff_eq] at h
  exact h m hm i hi
theorem shl_n {n : Nat} (h : n ≤ 9) : shl .i64 1 (n : Int) = ((2 ^ n : Nat) : Int) := by
  obtain rfl | rfl | rfl | rfl | rfl | rfl | rfl | rfl | rfl | rfl : n = 0 ∨ n = 1 ∨ n = 2 ∨ n = 3 ∨ n = 4 ∨ n = 5 ∨ n = 6 ∨ n = 7 ∨ n = 8 ∨ n = 9 := by omega
  all_goals decide +kernel
theorem cwB_val (m : Nat) : ∀ n x, x ∈ cwB m n → 1 ≤ x ∧ x ≤ 2 := by
  intro n
  induction n with
  | zero => intro x hx; cases hx
  | succ n ih =>
    intro x hx
    unfold cwB at hx
    rcases List.mem_append.mp hx with h | h
    · exact ih x h
    · rw [List.mem_singleton.mp h]
      have h1 := Int.emod_nonneg ((m : Int) / 2 ^ n) (show (2 : Int) ≠ 0 by decide)
      have h2 := Int.emod_lt_of_pos ((m : Int) / 2 ^ n) (show (0 : Int) < 2 by decide)
      omega
/-- Of each full board the program's winner is the one of whom the reference says so. -/
theorem code_tells {r q : Nat} (hr : 1 ≤ r) (hq : 1 ≤ q) (hn : r * q ≤ 30) {b : List Int} (hb : b.length = r * q) (hv : ∀ x ∈ b, 1 ≤ x ∧ x ≤ 2) {pl : Int} (hpl : pl = 1 ∨ pl = 2) :
    ∃ (K : Nat) (u wv : Int), ∀ k, K ≤ k → spec_hxNeed.f k r q b pl = some u ∧ impl_winner.f k r q b = some wv ∧ (u = 0 ↔ wv = pl) := by
  have hval := rd_val (l := b) (fun x hx => by have := hv x hx; omega)
  obtain ⟨K0, u, hu1, hu2⟩ := hxNeed_tells (r := r) (c := q) (b := b) (pl := pl) hr hq hn hb hval hpl
  obtain ⟨K1, v1, hv1, t1⟩ := need_tells (r := r) (c := q) (b := b) (pl := 1) hr hq hn hb (.inl rfl)
  obtain ⟨K2, v2, hv2, t2⟩ := need_tells (r := r) (c := q) (b := b) (pl := 2) hr hq hn hb (.inr rfl)
  have hfull : ∀ i : Nat, i < r * q → rd b i = 1 ∨ rd b i = 2 := by
    intro i hi
    have hil : i < b.length := by omega
    have he : rd b (i : Nat) = b[i] := by unfold rd; rw [List.getD_eq_getElem?_getD, Int.toNat_natCast, List.getElem?_eq_getElem hil]; rfl
    have := hv _ (List.getElem_mem hil)
    rw [← he] at this
    omega
  have hone := one_won hr hq hfull
  have z1 : v1 = 0 ↔ Cost r q b 1 0 := by
    rcases t1 with ⟨e, n1⟩ | ⟨cc, e, _, C, m1⟩
    · constructor
      · intro h; omega
      · intro h; exact absurd h (n1 _)
    · constructor
      · intro h
        have : cc = 0 := by omega
        rw [← this]; exact C
      · intro h; have := m1 _ h; omega
  have z2 : v2 = 0 ↔ Cost r q b 2 0 := by
    rcases t2 with ⟨e, n1⟩ | ⟨cc, e, _, C, m1⟩
    · constructor
      · intro h; omega
      · intro h; exact absurd h (n1 _)
    · constructor
      · intro h
        have : cc = 0 := by omega
        rw [← this]; exact C
      · intro h; have := m1 _ h; omega
  have zu : u = 0 ↔ Cost r q b pl 0 := by
    rcases hu2 with ⟨e, n1⟩ | ⟨cc, e, _, C, m1⟩
    · constructor
      · intro h; omega
      · intro h; exact absurd h (n1 _)
    · constructor
      · intro h
        have : cc = 0 := by omega
        rw [← this]; exact C
      · intro h; have := m1 _ h; omega
  refine ⟨K0 + K1 + K2 + 3, u, if v1 = 0 then 1 else 2, fun k hk => ⟨hu1 k (by omega), ?_, ?_⟩⟩
  · obtain ⟨k, rfl⟩ : ∃ m, k = m + 3 := ⟨k - 3, by omega⟩
    unfold impl_winner.f
    rw [impl_winner.l0, if_pos (by omega), hv1 _ (by omega)]
    simp only [Option.bind_some]
    by_cases h : v1 = 0
    · rw [if_pos h, if_pos h]
    · rw [if_neg h, if_neg h, show wrap64 (1 + 1) = 2 from by unfold wrap64; omega, impl_winner.l0, if_pos (by omega), hv2 _ (by omega)]
      simp only [Option.bind_some]
      have h2 : v2 = 0 := by
        rcases hone with h1 | h1
        · exact absurd (z1.mpr h1) h
        · exact z2.mpr h1
      rw [if_pos h2]
  · rw [zu]
    rcases hpl with rfl | rfl
    · rw [← z1]
      by_cases h : v1 = 0
      · simp [h]
      · simp [h]
    · by_cases h : v1 = 0
      · rw [if_pos h]
        constructor
        · intro h2; exact (not_both2 hq (z1.mp h) h2).elim
        · intro h2; omega
      · rw [if_neg h]
        constructor
        · intro _; rfl
        · intro _
          rcases hone with h1 | h1
          · exact absurd (z1.mpr h1) h
          · exact h1

section
variable {r q n : Nat} {pl : Int}
theorem l1_all (h9 : n ≤ 9) (hn : r * q = n) {v : Int × Bool} (x8 : Int) (m : Nat) (hm : m < 512) (X : Int) (d : Nat) : ∀ i : Nat, i + d = n →
    (∃ K, ∀ k, K ≤ k → ((impl_winner.f k r q (cwB m n)).bind fun t => if t = pl then impl_CountWins.l0 k r q pl (wrap64 (x8 + 1)) X (wrap64 ((m : Int) + 1)) else impl_CountWins.l0 k r q pl x8 X (wrap64 ((m : Int) + 1))) = some v) →
    ∃ K, ∀ k, K ≤ k → impl_CountWins.l1 k r q pl x8 (m : Int) (cwB m i ++ List.replicate (n - i) 0) X (m : Int) (n : Int) (i : Int) = some v := by
  induction d with
  | zero =>
    intro i hi hv
    obtain rfl : i = n := by omega
    refine ev_s (fun k => ?_) hv
    rw [impl_CountWins.l1, if_neg (by omega), Nat.sub_self, List.replicate_zero, List.append_nil]
  | succ d ih =>
    intro i hi hv
    have hw : wrap64 ((i : Int) + 1) = ((i + 1 : Nat) : Int) := by rw [wr (by omega) (by omega)]; omega
    have hl : ((cwB m i ++ List.replicate (n - i) (0 : Int)).length : Int) = (n : Int) := by simp [cwB_len]; omega
    have hset : (cwB m i ++ List.replicate (n - i) (0 : Int)).set i (1 + (m : Int) / 2 ^ i % 2) = cwB m (i + 1) ++ List.replicate (n - (i + 1)) 0 := by
      rw [List.set_append_right _ _ (by rw [cwB_len]; exact Nat.le_refl _), cwB_len, Nat.sub_self, show n - i = (n - (i + 1)) + 1 by omega, List.replicate_succ, List.set_cons_zero]
      simp [cwB]
    refine ev_s (fun k => ?_) (ih (i + 1) (by omega) hv)
    rw [impl_CountWins.l1, if_pos (by omega), if_pos (by omega), hl, if_pos (by omega), Int.toNat_natCast, bit_of hm (by omega), hset, hw]

theorem l0_all (h9 : n ≤ 9) (hn : r * q = n) (hr : 1 ≤ r) (hq : 1 ≤ q) (hpl : pl = 1 ∨ pl = 2) (m : Nat) : m ≤ 2 ^ n →
    ∃ (K : Nat) (c : Int), (∀ k, K ≤ k → cwC k r q pl n m = some c) ∧ (0 ≤ c ∧ c ≤ m) ∧
      ∀ v : Int × Bool, (∃ K, ∀ k, K ≤ k → impl_CountWins.l0 k r q pl c ((2 ^ n : Nat) : Int) (m : Int) = some v) → ∃ K, ∀ k, K ≤ k → impl_CountWins.l0 k r q pl 0 ((2 ^ n : Nat) : Int) 0 = some v := by
  have hp : 2 ^ n ≤ 512 := Nat.le_trans (Nat.pow_le_pow_right (by decide) h9) (by decide)
  induction m with
  | zero => intro _; exact ⟨0, 0, fun k _ => rfl, by omega, fun v h => h⟩
  | succ m ih =>
    intro hm
    obtain ⟨K, c, h1, hcb, h2⟩ := ih (by omega)
    obtain ⟨K2, u, wv, h3⟩ := code_tells (r := r) (q := q) hr hq (by omega) (b := cwB m n) (by rw [cwB_len, hn]) (fun x hx => cwB_val m n x hx) hpl
    refine ⟨K + K2, if u = 0 then c + 1 else c, fun k hk => ?_, by split <;> omega, fun v hv => h2 v ?_⟩
    · unfold cwC
      rw [h1 k (by omega), (h3 k (by omega)).1]
      rfl
    · have hw : wrap64 ((m : Int) + 1) = ((m + 1 : Nat) : Int) := by rw [wr (by omega) (by omega)]; omega
      have hmul : wrap64 ((r : Int) * (q : Int)) = (n : Int) := by rw [← Int.natCast_mul, hn]; exact wr (by omega) (by omega)
      have hw1 : wrap64 (c + 1) = c + 1 := wr (by omega) (by omega)
      have hstep : ∃ K, ∀ k, K ≤ k → ((impl_winner.f k r q (cwB m n)).bind fun t => if t = pl then impl_CountWins.l0 k r q pl (wrap64 (c + 1)) ((2 ^ n : Nat) : Int) (wrap64 ((m : Int) + 1)) else impl_CountWins.l0 k r q pl c ((2 ^ n : Nat) : Int) (wrap64 ((m : Int) + 1))) = some v := by
        obtain ⟨K3, hv⟩ := hv
        refine ⟨K2 + K3, fun k hk => ?_⟩
        obtain ⟨_, e2, e3⟩ := h3 k (by omega)
        rw [e2, hw, hw1]
        simp only [Option.bind_some]
        have := hv k (by omega)
        by_cases hu : u = 0
        · rw [if_pos (e3.mp hu)]; rw [if_pos hu] at this; exact this
        · rw [if_neg (fun h => hu (e3.mpr h))]; rw [if_neg hu] at this; exact this
      have h4 := l1_all (r := r) (q := q) (pl := pl) h9 hn c m (by omega) ((2 ^ n : Nat) : Int) n 0 (by omega) hstep
      refine ev_s (fun k => ?_) h4
      rw [impl_CountWins.l0, if_pos (by omega), hmul, if_pos (by omega), if_pos (by omega)]
      simp only [Option.bind_some, Int.toNat_natCast, List.length_replicate]
      rfl
end

theorem s_no {a c p : Int} (hs : hshape a c = false) (k : Nat) : spec_CountWins.f k a c p = some (0, false) := by
  unfold spec_CountWins.f; rw [hxSides_f, hs, Option.bind_some, if_neg (by decide)]
theorem i_no {a c p : Int} (hs : hshape a c = false) (k : Nat) : impl_CountWins.f (k + 1) a c p = some (0, false) := by
  unfold impl_CountWins.f; rw [isShape_f, hs]; simp [impl_CountWins.j0]
theorem s_big {a c p x : Int} (hs : hshape a c = true) (hx : a * c = x) (h0 : 0 ≤ x) (h1 : x ≤ 900) (h9 : x > 9) (k : Nat) : spec_CountWins.f k a c p = some (0, false) := by
  have hh : 0 ≤ x ∧ x ≤ 900 := ⟨h0, h1⟩
  unfold spec_CountWins.f; rw [hxSides_f, hs, hx, Option.bind_some, if_pos rfl, if_pos hh, if_pos h9]
theorem i_big {a c p x : Int} (hs : hshape a c = true) (hw : wrap64 (a * c) = x) (h9 : x > 9) (k : Nat) : impl_CountWins.f (k + 1) a c p = some (0, false) := by
  unfold impl_CountWins.f; rw [isShape_f, hs, hw]; simp only [Option.bind_some, if_true]; rw [if_pos h9]; simp [impl_CountWins.j0]
theorem s_pl {a c p x : Int} (hs : hshape a c = true) (hx : a * c = x) (h0 : 0 ≤ x) (h1 : x ≤ 900) (h9 : ¬ x > 9) (hp : spec_hxPlayer.f p = some false) (k : Nat) : spec_CountWins.f k a c p = some (0, false) := by
  have hh : 0 ≤ x ∧ x ≤ 900 := ⟨h0, h1⟩
  unfold spec_CountWins.f; rw [hxSides_f, hs, hx, Option.bind_some, if_pos rfl, if_pos hh, if_neg h9, hp, Option.bind_some, if_neg (by decide)]
theorem i_pl {a c p x : Int} (hs : hshape a c = true) (hw : wrap64 (a * c) = x) (h9 : ¬ x > 9) (hp : impl_isPlayer.f p = some false) (k : Nat) : impl_CountWins.f (k + 1) a c p = some (0, false) := by
  unfold impl_CountWins.f; rw [isShape_f, hs, hw]; simp only [Option.bind_some, if_true]; rw [if_neg h9, hp]; simp [impl_CountWins.j0]
theorem s_yes {a c p x cc : Int} {n : Nat} (hs : hshape a c = true) (hx : a * c = x) (hn : x.toNat = n) (h0 : 0 ≤ x) (h1 : x ≤ 900) (h9 : ¬ x > 9) (hp : spec_hxPlayer.f p = some true) (k : Nat) (e : cwC k a c p n (2 ^ n) = some cc) : spec_CountWins.f k a c p = some (cc, true) := by
  have hh : 0 ≤ x ∧ x ≤ 900 := ⟨h0, h1⟩
  unfold spec_CountWins.f; rw [hxSides_f, hs, hx, hn, Option.bind_some, if_pos rfl, if_pos hh, if_neg h9, hp, Option.bind_some, if_pos rfl, e, Option.bind_some]
theorem i_yes {a c p x y : Int} {v : Int × Bool} (hs : hshape a c = true) (hw : wrap64 (a * c) = x) (h0 : 0 ≤ x) (h9 : ¬ x > 9) (hp : impl_isPlayer.f p = some true) (hy : shl .i64 1 x = y) (k : Nat) (e : impl_CountWins.l0 k a c p 0 y 0 = some v) : impl_CountWins.f (k + 1) a c p = some v := by
  unfold impl_CountWins.f; rw [isShape_f, hs, hw]; simp only [Option.bind_some, if_true]; rw [if_neg h9, hp]
  simp only [Option.bind_some, Bool.not_true]
  rw [impl_CountWins.j0, if_neg (by decide), hw, if_pos h0, hy]
  exact e

theorem same (a c p : Int) : ∃ (K : Nat) (g : Int × Bool), ∀ k, K ≤ k → spec_CountWins.f k a c p = some g ∧ impl_CountWins.f k a c p = some g := by
  obtain ⟨p1, p2, p3⟩ := player_f p
  cases hs : hshape a c with
  | false =>
    refine ⟨1, (0, false), fun k hk => ?_⟩
    obtain ⟨k, rfl⟩ : ∃ m, k = m + 1 := ⟨k - 1, by omega⟩
    exact ⟨s_no hs _, i_no hs _⟩
  | true =>
    obtain ⟨r, q, rfl, rfl, h1, h2, h3, hw⟩ := shape_nat hs
    obtain ⟨n, hn⟩ : ∃ n, r * q = n := ⟨_, rfl⟩
    have hrq : (r : Int) * (q : Int) = (n : Int) := by rw [← hn, Int.natCast_mul]
    rw [hn] at hw h3
    have hb0 : (0 : Int) ≤ (n : Int) := by omega
    have hb1 : (n : Int) ≤ 900 := by omega
    by_cases h9 : n ≤ 9
    · have h9' : ¬ (n : Int) > 9 := by omega
      cases hp : inRange p 1 2 with
      | false =>
        rw [hp] at p1 p2
        refine ⟨1, (0, false), fun k hk => ?_⟩
        obtain ⟨k, rfl⟩ : ∃ m, k = m + 1 := ⟨k - 1, by omega⟩
        exact ⟨s_pl hs hrq hb0 hb1 h9' p1 _, i_pl hs hw h9' p2 _⟩
      | true =>
        rw [hp] at p1 p2
        obtain ⟨K, cc, e1, _, e2⟩ := l0_all (r := r) (q := q) (n := n) (pl := p) h9 hn h1 h2 (p3 hp) (2 ^ n) (Nat.le_refl _)
        obtain ⟨K2, e3⟩ := e2 (cc, true) ⟨1, fun k hk => by
          obtain ⟨k, rfl⟩ : ∃ m, k = m + 1 := ⟨k - 1, by omega⟩
          have hne : ¬ (((2 ^ n : Nat) : Int) < ((2 ^ n : Nat) : Int)) := Int.lt_irrefl _
          rw [impl_CountWins.l0, if_neg hne]⟩
        refine ⟨K + K2 + 1, (cc, true), fun k hk => ⟨?_, ?_⟩⟩
        · exact s_yes hs hrq (Int.toNat_natCast n) hb0 hb1 h9' p1 k (e1 k (by omega))
        · obtain ⟨k, rfl⟩ : ∃ m, k = m + 1 := ⟨k - 1, by omega⟩
          exact i_yes hs hw hb0 h9' p2 (shl_n h9) k (e3 k (by omega))
    · have h9' : (n : Int) > 9 := by omega
      refine ⟨1, (0, false), fun k hk => ?_⟩
      obtain ⟨k, rfl⟩ : ∃ m, k = m + 1 := ⟨k - 1, by omega⟩
      exact ⟨s_big hs hrq hb0 hb1 h9' _, i_big hs hw h9' _⟩
end CountWins

end Go.Proofs.Ytjajahofbhcioaa.Pure

namespace Go.Proofs.Ytjajahofbhcioaa.Pct
open Go.RowKit Go.Proofs.Ytjajahofbhcioaa.Q Go.Proofs.Ytjajahofbhcioaa.Given Go.Proofs.Ytjajahofbhcioaa.Hg Go.Proofs.Ytjajahofbhcioaa.Hu Go.Proofs.Ytjajahofbhcioaa.Pa Go.Proofs.Ytjajahofbhcioaa.Pq Go.Proofs.Ytjajahofbhcioaa.Pt Go.Proofs.Ytjajahofbhcioaa.Pw Go.Proofs.Ytjajahofbhcioaa.Pu Go.Proofs.YtjajahofbhcioaaW.PrintWords Go.Proofs.YtjajahofbhcioaaW.PrintLast
set_option linter.unusedVariables false
set_option linter.unusedSimpArgs false

/-! the turned board -/
def tr (r q : Nat) (i : Nat) : Nat := r * (i % q) + i / q
def turnB (r q : Nat) (b : List Int) : List Int := (List.range (r * q)).map fun j => 3 - rd b ((q * (j % r) + j / r : Nat) : Int)
section
variable {r q : Nat}
theorem tr_facts (hr : 1 ≤ r) (hq : 1 ≤ q) {i : Nat} (hi : i < r * q) : tr r q i < r * q ∧ tr r q i / r = i % q ∧ tr r q i % r = i / q ∧ i / q < r ∧ i % q < q := by
  have h1 : i % q < q := Nat.mod_lt _ (by omega)
  have h2 : i / q < r := Nat.div_lt_of_lt_mul (by rw [Nat.mul_comm]; exact hi)
  have h3 : tr r q i / r = i % q := by
    unfold tr
    rw [Nat.mul_add_div (by omega), Nat.div_eq_of_lt h2, Nat.add_zero]
  have h4 : tr r q i % r = i / q := by
    unfold tr
    rw [Nat.mul_add_mod, Nat.mod_eq_of_lt h2]
  have h5 : tr r q i < r * q := by
    unfold tr
    have h6 : r * (i % q) ≤ r * (q - 1) := Nat.mul_le_mul_left _ (by omega)
    have h7 : r * (q - 1) = r * q - r := by rw [Nat.mul_sub, Nat.mul_one]
    have h8 : r ≤ r * q := Nat.le_mul_of_pos_right _ hq
    omega
  exact ⟨h5, h3, h4, h2, h1⟩
theorem tr_tr (hr : 1 ≤ r) (hq : 1 ≤ q) {i : Nat} (hi : i < r * q) : q * (tr r q i % r) + tr r q i / r = i := by
  obtain ⟨_, h3, h4, _, _⟩ := tr_facts hr hq hi
  rw [h3, h4]
  exact Nat.div_add_mod i q
theorem rd_turn (hr : 1 ≤ r) (hq : 1 ≤ q) (b : List Int) {i : Nat} (hi : i < r * q) : rd (turnB r q b) (tr r q i : Nat) = 3 - rd b (i : Nat) := by
  have h := (tr_facts hr hq hi).1
  have e : rd (turnB r q b) (tr r q i : Nat) = 3 - rd b ((q * (tr r q i % r) + tr r q i / r : Nat) : Int) := by
    unfold turnB
    generalize tr r q i = j at h
    rw [show rd (List.map (fun j => 3 - rd b ((q * (j % r) + j / r : Nat) : Int)) (List.range (r * q))) (j : Nat) = (List.map (fun j => 3 - rd b ((q * (j % r) + j / r : Nat) : Int)) (List.range (r * q))).getD j 0 from by unfold rd; rw [Int.toNat_natCast]]
    rw [List.getD_eq_getElem?_getD, List.getElem?_map, List.getElem?_range h]
    rfl
  rw [e, tr_tr hr hq hi]
theorem turn_len (b : List Int) : (turnB r q b).length = r * q := by unfold turnB; simp
theorem adj_tr {x y x' y' : Int} (h : adj x y x' y') : adj y x y' x' := by unfold adj at *; omega
theorem path_turn (hr : 1 ≤ r) (hq : 1 ≤ q) {b : List Int} {pl : Int} (hpl : pl = 1 ∨ pl = 2) {cc i : Nat} (h : PG r q b pl cc i) : cc = 0 → PG q r (turnB r q b) (3 - pl) 0 (tr r q i) := by
  have hco : ∀ i, i < r * q → coG b pl i = 0 → coG (turnB r q b) (3 - pl) (tr r q i) = 0 := by
    intro i hi h0
    unfold coG at h0 ⊢
    rw [rd_turn hr hq b hi]
    split at h0
    · rename_i e; rw [e, if_pos rfl]
    · cases h0
  have hok : ∀ i, okG r q b pl i → coG b pl i = 0 → okG q r (turnB r q b) (3 - pl) (tr r q i) := by
    intro i hi h0
    have e := co0 (b := b) (pl := pl) (j := i) (by omega)
    refine ⟨by rw [Nat.mul_comm]; exact (tr_facts hr hq hi.1).1, .inl ?_⟩
    rw [rd_turn hr hq b hi.1, e]
  have hcast : ∀ i, i < r * q → ((tr r q i : Nat) : Int) / (r : Int) = (i : Int) % (q : Int) ∧ ((tr r q i : Nat) : Int) % (r : Int) = (i : Int) / (q : Int) := by
    intro i hi
    obtain ⟨_, h3, h4, _, _⟩ := tr_facts hr hq hi
    constructor
    · rw [← Int.natCast_ediv, h3, Int.natCast_emod]
    · rw [← Int.natCast_emod, h4, Int.natCast_ediv]
  induction h with
  | @start i hs ho =>
    intro h0
    have hi := ho.1
    have := P.start (nb := nbG q r) (st := stG r (3 - pl)) (ok := okG q r (turnB r q b) (3 - pl)) (cost := coG (turnB r q b) (3 - pl)) (i := tr r q i) (by
      unfold stG firstN at hs ⊢
      obtain ⟨h1, h2⟩ := hcast i hi
      have hq' := (tr_facts hr hq hi)
      rcases hpl with rfl | rfl
      · have hlt : (i : Int) < (q : Int) := by simpa using hs
        have hd : (i : Int) / (q : Int) = 0 := Int.ediv_eq_zero_of_lt (by omega) hlt
        rw [hd] at h2
        simp [h2]
      · have hm : (i : Int) % (q : Int) = 0 := by simpa using hs
        have ht : tr r q i < r := by
          have e : tr r q i = i / q := by
            unfold tr
            have : i % q = 0 := by rw [← Int.natCast_emod] at hm; exact_mod_cast hm
            rw [this, Nat.mul_zero, Nat.zero_add]
          rw [e]; exact hq'.2.2.2.1
        have ht' : ((tr r q i : Nat) : Int) < (r : Int) := by exact_mod_cast ht
        simp [ht']) (hok i ho h0)
    rwa [hco i hi h0] at this
  | @step c j i hp hn ho ih =>
    intro h0
    have hc : c = 0 := by omega
    have hi0 : coG b pl i = 0 := by omega
    have h1 := ih hc
    obtain ⟨⟨hj, hi⟩, ha⟩ := hn
    have := P.step (nb := nbG q r) (st := stG r (3 - pl)) (ok := okG q r (turnB r q b) (3 - pl)) (cost := coG (turnB r q b) (3 - pl)) h1 (i := tr r q i) (by
      refine ⟨⟨by rw [Nat.mul_comm]; exact (tr_facts hr hq hj).1, by rw [Nat.mul_comm]; exact (tr_facts hr hq hi).1⟩, ?_⟩
      unfold adjI at ha ⊢
      obtain ⟨a1, a2⟩ := hcast j hj
      obtain ⟨a3, a4⟩ := hcast i hi
      rw [a1, a2, a3, a4]
      exact adj_tr ha) (hok i ho hi0)
    rwa [hco i hi hi0] at this
theorem cost_turn (hr : 1 ≤ r) (hq : 1 ≤ q) {b : List Int} {pl : Int} (hpl : pl = 1 ∨ pl = 2) (h : Cost r q b pl 0) : Cost q r (turnB r q b) (3 - pl) 0 := by
  obtain ⟨i, hl, hP⟩ := h
  have hi := hP.okEnd.1
  obtain ⟨h5, h3, h4, h2, h1⟩ := tr_facts hr hq hi
  refine ⟨tr r q i, ?_, path_turn hr hq hpl hP rfl⟩
  unfold lastN at hl ⊢
  rcases hpl with rfl | rfl
  · have hge : (q : Int) * ((r : Int) - 1) ≤ i := by simpa using hl
    have hdiv : i / q = r - 1 := by
      have ha : q * (r - 1) ≤ i := by
        have e : ((q * (r - 1) : Nat) : Int) = (q : Int) * ((r : Int) - 1) := by rw [Int.natCast_mul, Int.natCast_sub hr]; rfl
        exact_mod_cast (e ▸ hge)
      have hb : r - 1 ≤ i / q := (Nat.le_div_iff_mul_le (by omega)).mpr (by rw [Nat.mul_comm]; exact ha)
      omega
    have hm : ((tr r q i : Nat) : Int) % (r : Int) = (r : Int) - 1 := by
      rw [← Int.natCast_emod, h4, hdiv, Int.natCast_sub hr]; rfl
    simp [hm]
  · have hm : (i : Int) % (q : Int) = (q : Int) - 1 := by simpa using hl
    have hmn : i % q = q - 1 := by
      rw [← Int.natCast_emod] at hm
      omega
    have hge : (r : Int) * ((q : Int) - 1) ≤ ((tr r q i : Nat) : Int) := by
      have e : ((r * (q - 1) : Nat) : Int) = (r : Int) * ((q : Int) - 1) := by rw [Int.natCast_mul, Int.natCast_sub hq]; rfl
      rw [← e]
      have : r * (q - 1) ≤ tr r q i := by unfold tr; rw [hmn]; omega
      exact_mod_cast this
    simp [hge]
end

/-! codes of boards -/
def code : List Int → Nat
  | [] => 0
  | x :: t => (x - 1).toNat + 2 * code t
theorem code_lt : ∀ l : List Int, (∀ x ∈ l, x = 1 ∨ x = 2) → code l < 2 ^ l.length := by
  intro l
  induction l with
  | nil => intro _; exact Nat.lt_succ_self 0
  | cons x t ih =>
    intro h
    have := ih (fun y hy => h y (by simp [hy]))
    have hx := h x (by simp)
    rw [List.length_cons, Nat.pow_succ]
    show (x - 1).toNat + 2 * code t < _
    omega
theorem code_bit : ∀ (l : List Int), (∀ x ∈ l, x = 1 ∨ x = 2) → ∀ i : Nat, i < l.length → 1 + (code l : Int) / 2 ^ i % 2 = l.getD i 0 := by
  intro l
  induction l with
  | nil => intro _ i hi; simp at hi
  | cons x t ih =>
    intro h i hi
    have hx := h x (by simp)
    have hc : (code (x :: t) : Int) = (x - 1) + 2 * (code t : Int) := by
      show (((x - 1).toNat + 2 * code t : Nat) : Int) = _
      rw [Int.natCast_add, Int.natCast_mul]
      omega
    cases i with
    | zero =>
      rw [hc, List.getD_cons_zero]
      have : (2 : Int) ^ 0 = 1 := rfl
      rw [this, Int.ediv_one]
      omega
    | succ i =>
      have h1 := ih (fun y hy => h y (by simp [hy])) i (by simpa using hi)
      rw [List.getD_cons_succ, ← h1, hc]
      have e : (2 : Int) ^ (i + 1) = 2 * 2 ^ i := by rw [Int.pow_succ, Int.mul_comm]
      rw [e, ← Int.ediv_ediv_of_nonneg (by omega)]
      have : (x - 1 + 2 * (code t : Int)) / 2 = (code t : Int) := by omega
      rw [this]
theorem cwB_get (m : Nat) : ∀ (n i : Nat), i < n → (cwB m n).getD i 0 = 1 + (m : Int) / 2 ^ i % 2 := by
  intro n
  induction n with
  | zero => intro i hi; omega
  | succ n ih =>
    intro i hi
    unfold cwB
    rw [List.getD_eq_getElem?_getD]
    by_cases e : i < n
    · rw [List.getElem?_append_left (by rw [cwB_len]; exact e), ← List.getD_eq_getElem?_getD, ih i e]
    · obtain rfl : i = n := by omega
      rw [List.getElem?_append_right (by rw [cwB_len]; exact Nat.le_refl _), cwB_len, Nat.sub_self]
      rfl
theorem ext_getD {l l' : List Int} (h : l.length = l'.length) (hg : ∀ i, i < l.length → l.getD i 0 = l'.getD i 0) : l = l' := by
  refine List.ext_getElem h (fun i h1 h2 => ?_)
  have := hg i h1
  rw [List.getD_eq_getElem?_getD, List.getD_eq_getElem?_getD, List.getElem?_eq_getElem h1, List.getElem?_eq_getElem h2] at this
  simpa using this
theorem cwB_code {l : List Int} (h : ∀ x ∈ l, x = 1 ∨ x = 2) : cwB (code l) l.length = l :=
  ext_getD (cwB_len _ _) (fun i hi => by
    rw [cwB_len] at hi
    rw [cwB_get _ _ i hi, code_bit l h i hi])
theorem cwB_inj : ∀ (n m m' : Nat), m < 2 ^ n → m' < 2 ^ n → cwB m n = cwB m' n → m = m' := by
  intro n
  have key : ∀ n m m' : Nat, cwB m n = cwB m' n → m % 2 ^ n = m' % 2 ^ n := by
    intro n
    induction n with
    | zero => intro m m' _; rw [Nat.pow_zero, Nat.mod_one, Nat.mod_one]
    | succ n ih =>
      intro m m' h
      unfold cwB at h
      have h1 := List.append_inj' h rfl
      have h2 := ih m m' h1.1
      have h3 : 1 + (m : Int) / 2 ^ n % 2 = 1 + (m' : Int) / 2 ^ n % 2 := by simpa using h1.2
      have h4 : m / 2 ^ n % 2 = m' / 2 ^ n % 2 := by
        have e : ∀ t : Nat, ((t / 2 ^ n % 2 : Nat) : Int) = (t : Int) / 2 ^ n % 2 := fun t => by rw [Int.natCast_emod, Int.natCast_ediv, Int.natCast_pow]; rfl
        have := e m
        have := e m'
        omega
      rw [Nat.mod_pow_succ, Nat.mod_pow_succ, h2, h4]
  intro m m' h1 h2 h
  have := key n m m' h
  rwa [Nat.mod_eq_of_lt h1, Nat.mod_eq_of_lt h2] at this

/-! how many -/
open Classical in
noncomputable def cnt (r q : Nat) (p : Int) (n : Nat) : Nat → Nat
  | 0 => 0
  | m + 1 => cnt r q p n m + if Cost r q (cwB m n) p 0 then 1 else 0
theorem sub_len : ∀ (A B : List Nat), A.Nodup → (∀ x ∈ A, x ∈ B) → A.length ≤ B.length := by
  intro A
  induction A with
  | nil => intro B _ _; exact Nat.zero_le _
  | cons a A ih =>
    intro B hn h
    have h1 := List.nodup_cons.mp hn
    have h2 := ih (B.erase a) h1.2 (fun x hx => (List.mem_erase_of_ne (fun e => h1.1 (by rw [← e]; exact hx))).mpr (h x (by simp [hx])))
    have h3 := List.length_erase_of_mem (h a (by simp))
    have h4 := List.length_pos_of_mem (h a (by simp))
    rw [List.length_cons]
    omega
section
variable {r q n : Nat}
open Classical in
theorem cnt_filter (p : Int) : ∀ m : Nat, cnt r q p n m = ((List.range m).filter fun t => decide (Cost r q (cwB t n) p 0)).length := by
  intro m
  induction m with
  | zero => rfl
  | succ m ih =>
    rw [List.range_succ, List.filter_append, List.length_append, ← ih]
    show cnt r q p n m + _ = _
    congr 1
    by_cases h : Cost r q (cwB m n) p 0 <;> simp [h]
theorem cw_full (m : Nat) : ∀ i : Nat, i < n → rd (cwB m n) i = 1 ∨ rd (cwB m n) i = 2 := by
  intro i hi
  have := cwB_get m n i hi
  have e : rd (cwB m n) i = (cwB m n).getD i 0 := by unfold rd; rw [Int.toNat_natCast]
  rw [e, this]
  have := Int.emod_nonneg ((m : Int) / 2 ^ i) (show (2 : Int) ≠ 0 by decide)
  have := Int.emod_lt_of_pos ((m : Int) / 2 ^ i) (show (0 : Int) < 2 by decide)
  omega
theorem cnt_sum (hr : 1 ≤ r) (hq : 1 ≤ q) (hn : r * q = n) {p : Int} (hp : p = 1 ∨ p = 2) : ∀ m : Nat, cnt r q p n m + cnt r q (3 - p) n m = m := by
  intro m
  induction m with
  | zero => rfl
  | succ m ih =>
    have h1 := one_won hr hq (b := cwB m n) (fun i hi => cw_full m i (by omega))
    have h2 : ¬ (Cost r q (cwB m n) 1 0 ∧ Cost r q (cwB m n) 2 0) := fun h => not_both2 hq h.1 h.2
    show (cnt r q p n m + _) + (cnt r q (3 - p) n m + _) = m + 1
    rcases hp with rfl | rfl
    · by_cases c1 : Cost r q (cwB m n) 1 0
      · have c2 : ¬ Cost r q (cwB m n) (3 - 1) 0 := fun h => h2 ⟨c1, h⟩
        rw [if_pos c1, if_neg c2]; omega
      · have c2 : Cost r q (cwB m n) (3 - 1) 0 := by rcases h1 with h | h; exact absurd h c1; exact h
        rw [if_neg c1, if_pos c2]; omega
    · by_cases c1 : Cost r q (cwB m n) 2 0
      · have c2 : ¬ Cost r q (cwB m n) (3 - 2) 0 := fun h => h2 ⟨h, c1⟩
        rw [if_pos c1, if_neg c2]; omega
      · have c2 : Cost r q (cwB m n) (3 - 2) 0 := by rcases h1 with h | h; exact h; exact absurd h c1
        rw [if_neg c1, if_pos c2]; omega
theorem turn_vals (hr : 1 ≤ r) (hq : 1 ≤ q) (hn : r * q = n) (m : Nat) : ∀ x ∈ turnB r q (cwB m n), x = 1 ∨ x = 2 := by
  intro x hx
  unfold turnB at hx
  obtain ⟨j, hj, rfl⟩ := List.mem_map.mp hx
  have hj := List.mem_range.mp hj
  have h1 : q * (j % r) + j / r < n := by
    have h := (tr_facts (r := q) (q := r) hq hr (i := j) (by rw [Nat.mul_comm]; exact hj)).1
    unfold tr at h
    rw [Nat.mul_comm q r] at h
    omega
  have := cw_full (n := n) m _ h1
  omega
theorem cnt_le (hr : 1 ≤ r) (hq : 1 ≤ q) (hn : r * q = n) {p : Int} (hp : p = 1 ∨ p = 2) : cnt r q p n (2 ^ n) ≤ cnt q r (3 - p) n (2 ^ n) := by
  have hlen : ∀ m, (turnB r q (cwB m n)).length = n := fun m => by rw [turn_len, hn]
  rw [cnt_filter, cnt_filter]
  generalize hA : (List.range (2 ^ n)).filter (fun t => @decide (Cost r q (cwB t n) p 0) (Classical.propDecidable _)) = A
  rw [← List.length_map (fun m => code (turnB r q (cwB m n)))]
  refine sub_len _ _ ?_ ?_
  · have hnd : A.Nodup := by rw [← hA]; exact List.Pairwise.filter _ List.nodup_range
    have hlt : ∀ m ∈ A, m < 2 ^ n := fun m hm => by rw [← hA] at hm; exact List.mem_range.mp (List.mem_filter.mp hm).1
    refine List.Pairwise.map _ (R := fun a b => a ∈ A ∧ b ∈ A ∧ a ≠ b) (fun a b hab he => ?_) (List.Pairwise.imp_of_mem (fun ha hb h => ⟨ha, hb, h⟩) hnd)
    obtain ⟨ha, hb, hne⟩ := hab
    have e1 : turnB r q (cwB a n) = turnB r q (cwB b n) := by
      have h1 := cwB_code (turn_vals hr hq hn a)
      have h2 := cwB_code (turn_vals hr hq hn b)
      rw [hlen] at h1 h2
      rw [← h1, ← h2, he]
    have e2 : cwB a n = cwB b n := by
      refine ext_getD (by rw [cwB_len, cwB_len]) (fun i hi => ?_)
      rw [cwB_len] at hi
      have h1 := rd_turn hr hq (cwB a n) (i := i) (by omega)
      have h2 := rd_turn hr hq (cwB b n) (i := i) (by omega)
      rw [e1] at h1
      have h3 : rd (cwB a n) i = rd (cwB b n) i := by omega
      unfold rd at h3
      rw [Int.toNat_natCast] at h3
      exact h3
    exact hne (cwB_inj n a b (hlt a ha) (hlt b hb) e2)
  · intro x hx
    obtain ⟨m, hm, rfl⟩ := List.mem_map.mp hx
    rw [← hA] at hm
    have hc : Cost r q (cwB m n) p 0 := by simpa using (List.mem_filter.mp hm).2
    have hl := code_lt _ (turn_vals hr hq hn m)
    rw [hlen] at hl
    refine List.mem_filter.mpr ⟨List.mem_range.mpr hl, ?_⟩
    have h1 := cwB_code (turn_vals hr hq hn m)
    rw [hlen] at h1
    have h2 := cost_turn hr hq hp hc
    simp only [h1, h2, decide_true]
theorem cnt_turn (hr : 1 ≤ r) (hq : 1 ≤ q) (hn : r * q = n) {p : Int} (hp : p = 1 ∨ p = 2) : cnt q r (3 - p) n (2 ^ n) = cnt r q p n (2 ^ n) := by
  refine Nat.le_antisymm ?_ (cnt_le hr hq hn hp)
  have h := cnt_le (r := q) (q := r) (n := n) hq hr (by rw [Nat.mul_comm]; exact hn) (p := 3 - p) (by rcases hp with rfl | rfl; exact .inr (by decide); exact .inl (by decide))
  rwa [show 3 - (3 - p) = p by omega] at h
open Classical in
theorem cwC_cnt (hr : 1 ≤ r) (hq : 1 ≤ q) (h9 : n ≤ 9) (hn : r * q = n) {p : Int} (hp : p = 1 ∨ p = 2) : ∀ m : Nat, ∃ K, ∀ k, K ≤ k → cwC k r q p n m = some (cnt r q p n m : Int) := by
  intro m
  induction m with
  | zero => exact ⟨0, fun k _ => rfl⟩
  | succ m ih =>
    obtain ⟨K1, h1⟩ := ih
    have hval := rd_val (l := cwB m n) (fun x hx => by have := Go.Proofs.Ytjajahofbhcioaa.Pure.CountWins.cwB_val m n x hx; omega)
    obtain ⟨K2, u, hu1, hu2⟩ := hxNeed_tells (r := r) (c := q) (b := cwB m n) (pl := p) hr hq (by omega) (by rw [cwB_len, hn]) hval hp
    refine ⟨K1 + K2, fun k hk => ?_⟩
    unfold cwC
    rw [h1 k (by omega), Option.bind_some, hu1 k (by omega), Option.bind_some]
    show _ = some ((cnt r q p n m + (if Cost r q (cwB m n) p 0 then 1 else 0) : Nat) : Int)
    congr 1
    rcases hu2 with ⟨e, n1⟩ | ⟨cc, e, _, C, m1⟩
    · rw [if_neg (by omega), if_neg (n1 0)]; rfl
    · by_cases h0 : cc = 0
      · subst h0
        rw [if_pos (by omega), if_pos C]; rfl
      · rw [if_neg (by omega), if_neg (fun h => by have := m1 _ h; omega)]; rfl
end
open Go.Proofs.Ytjajahofbhcioaa.Ph Go.Proofs.Ytjajahofbhcioaa.Pure.CountWins in
/-- What both CountWins tell, and what they tell of the other player and of the turned board. -/
theorem count_f (a c p : Int) : ∃ (K : Nat) (cc : Int) (three : Bool), (∀ k, K ≤ k → spec_CountWins.f k a c p = some (cc, three) ∧ impl_CountWins.f k a c p = some (cc, three)) ∧
    (three = true → ∃ (other : Int) (n : Nat), (∀ k, K ≤ k → impl_CountWins.f k a c (wrap64 (3 - p)) = some (other, true) ∧ impl_CountWins.f k c a (wrap64 (3 - p)) = some (cc, true)) ∧ wrap64 (a * c) = (n : Int) ∧ n ≤ 9 ∧ wrap64 (cc + other) = ((2 ^ n : Nat) : Int) ∧ (a = c → cc = other)) := by
  obtain ⟨K, ⟨cc, three⟩, hK⟩ := same a c p
  cases three with
  | false => exact ⟨K, cc, false, hK, fun h => by cases h⟩
  | true =>
    obtain ⟨p1, p2, p3⟩ := player_f p
    have hs : hshape a c = true := by
      cases hs : hshape a c with
      | true => rfl
      | false =>
        have := (hK K (Nat.le_refl _)).1.symm.trans (s_no hs K)
        injection this with this
        injection this with _ this
        cases this
    obtain ⟨r, q, rfl, rfl, h1, h2, h3, hw⟩ := shape_nat hs
    obtain ⟨n, hn⟩ : ∃ n, r * q = n := ⟨_, rfl⟩
    have hrq : (r : Int) * (q : Int) = (n : Int) := by rw [← hn, Int.natCast_mul]
    have hqr : (q : Int) * (r : Int) = (n : Int) := by rw [Int.mul_comm]; exact hrq
    rw [hn] at hw h3
    have hb0 : (0 : Int) ≤ (n : Int) := by omega
    have hb1 : (n : Int) ≤ 900 := by omega
    have h9 : n ≤ 9 := by
      by_cases h9 : n ≤ 9
      · exact h9
      · have := (hK K (Nat.le_refl _)).1.symm.trans (s_big hs hrq hb0 hb1 (by omega) K)
        injection this with this
        injection this with _ this
        cases this
    have h9' : ¬ (n : Int) > 9 := by omega
    have hp : inRange p 1 2 = true := by
      cases hp : inRange p 1 2 with
      | true => rfl
      | false =>
        rw [hp] at p1
        have := (hK K (Nat.le_refl _)).1.symm.trans (s_pl hs hrq hb0 hb1 h9' p1 K)
        injection this with this
        injection this with _ this
        cases this
    have hpp := p3 hp
    rw [hp] at p1 p2
    have hs' : hshape (q : Int) (r : Int) = true := by
      obtain ⟨⟨s1, s2⟩, ⟨s3, s4⟩, s5⟩ := shape_of hs
      unfold hshape inRange
      simp only [s1, s2, s3, s4, decide_true, Bool.and_self, if_true]
      rw [hqr]
      have : wrap64 (n : Int) = (n : Int) := by unfold wrap64; omega
      rw [this]
      exact decide_eq_true (by omega)
    have w3 : wrap64 (3 - p) = 3 - p := by rcases hpp with rfl | rfl <;> (unfold wrap64; omega)
    have hop : (3 - p) = 1 ∨ (3 - p) = 2 := by omega
    obtain ⟨o1, o2, o3⟩ := player_f (3 - p)
    have hoi : inRange (3 - p) 1 2 = true := by rcases hpp with rfl | rfl <;> decide
    rw [hoi] at o1 o2
    obtain ⟨K1, e1⟩ := cwC_cnt h1 h2 h9 hn hpp (2 ^ n)
    obtain ⟨K2, e2⟩ := cwC_cnt h1 h2 h9 hn hop (2 ^ n)
    obtain ⟨K3, e3⟩ := cwC_cnt (r := q) (q := r) h2 h1 h9 (by rw [Nat.mul_comm]; exact hn) hop (2 ^ n)
    have hcc : cc = (cnt r q p n (2 ^ n) : Int) := by
      have := (hK (K + K1) (by omega)).1.symm.trans (s_yes hs hrq (Int.toNat_natCast n) hb0 hb1 h9' p1 (K + K1) (e1 _ (by omega)))
      injection this with this
      injection this
    obtain ⟨K4, g4, hK4⟩ := same (r : Int) (q : Int) (3 - p)
    obtain ⟨K5, g5, hK5⟩ := same (q : Int) (r : Int) (3 - p)
    have hg4 : g4 = ((cnt r q (3 - p) n (2 ^ n) : Int), true) :=
      Option.some.inj ((hK4 (K4 + K2) (by omega)).1.symm.trans (s_yes hs hrq (Int.toNat_natCast n) hb0 hb1 h9' o1 (K4 + K2) (e2 _ (by omega))))
    have hg5 : g5 = ((cnt q r (3 - p) n (2 ^ n) : Int), true) :=
      Option.some.inj ((hK5 (K5 + K3) (by omega)).1.symm.trans (s_yes hs' hqr (Int.toNat_natCast n) hb0 hb1 h9' o1 (K5 + K3) (e3 _ (by omega))))
    have hsum := cnt_sum (n := n) h1 h2 hn hpp (2 ^ n)
    have htn := cnt_turn (n := n) h1 h2 hn hpp
    have hpw : 2 ^ n ≤ 512 := Nat.le_trans (Nat.pow_le_pow_right (by decide) h9) (by decide)
    refine ⟨K + K4 + K5, cc, true, fun k hk => hK k (by omega), fun _ => ⟨(cnt r q (3 - p) n (2 ^ n) : Int), n, fun k hk => ⟨?_, ?_⟩, hw, h9, ?_, ?_⟩⟩
    · rw [w3, (hK4 k (by omega)).2, hg4]
    · rw [w3, (hK5 k (by omega)).2, hg5, htn, hcc]
    · rw [hcc, ← Int.natCast_add, hsum]
      unfold wrap64
      generalize 2 ^ n = N at hpw
      omega
    · intro he
      have he : r = q := by exact_mod_cast he
      subst he
      rw [hcc, ← htn]
end Go.Proofs.Ytjajahofbhcioaa.Pct

namespace Go.Proofs.Ytjajahofbhcioaa.Pure
open Go.RowKit Go.Proofs.Ytjajahofbhcioaa.Q Go.Proofs.Ytjajahofbhcioaa.Given Go.Proofs.YtjajahofbhcioaaW.PrintWords Go.Proofs.YtjajahofbhcioaaW.PrintLast
set_option linter.unusedVariables false
set_option linter.unusedSimpArgs false

namespace BoardsPlayed
open Go.Proofs.Ytjajahofbhcioaa.Pbo Go.Proofs.Ytjajahofbhcioaa.Pgi Go.Proofs.Ytjajahofbhcioaa.Pgg Go.Proofs.Ytjajahofbhcioaa.Pu
section
variable {a c : Int} {l : List Int} {p : Int} {r q : Nat}
theorem hasWon (h : Bo a c l p r q) : ∃ K, ∀ k, K ≤ k → impl_HasWon.f k a c l p = some (decide (winO r q l = p), true) := by
  obtain ⟨K, v, u, hK, h1, _⟩ := h.need0
  obtain ⟨o1, _⟩ := h.winO_iff
  obtain ⟨p1, p2, p3⟩ := player_f p
  rw [h.inr] at p2
  refine ⟨K, fun k hk => ?_⟩
  unfold impl_HasWon.f
  rw [h.isBoard, Option.bind_some, if_pos rfl, p2, Option.bind_some, if_pos rfl, (hK k hk).1, Option.bind_some]
  have e : (v == 0) = decide (winO r q l = p) := by
    by_cases hv : v = 0
    · rw [hv, decide_eq_true (o1.mpr (h1.mp hv))]; rfl
    · rw [beq_eq_false_iff_ne.2 hv, decide_eq_false (fun e => hv (h1.mpr (o1.mp e)))]
  rw [e]
theorem M_tells (f : List Int → Int → Bool) (l : List Int) (p : Int) : ∀ d i m : Nat, M f l p d i = (m : Int) → i ≤ m ∧ m < i + d ∧ rd l (m : Nat) = 0 ∧ f (l.set m p) (3 - p) = false ∧ ∀ j : Nat, i ≤ j → j < m → rd l (j : Nat) = 0 → f (l.set j p) (3 - p) = true := by
  intro d
  induction d with
  | zero => intro i m h; exact absurd (show (-1 : Int) = m from h) (by omega)
  | succ d ih =>
    intro i m h
    unfold M at h
    by_cases h0 : rd l (i : Nat) = 0
    · rw [if_pos h0] at h
      cases hf : f (l.set i p) (3 - p) with
      | true =>
        rw [hf, if_pos rfl] at h
        obtain ⟨a1, a2, a3, a4, a5⟩ := ih (i + 1) m h
        refine ⟨by omega, by omega, a3, a4, fun j h1 h2 h3 => ?_⟩
        by_cases e : j = i
        · rw [e]; exact hf
        · exact a5 j (by omega) h2 h3
      | false =>
        rw [hf, if_neg (by decide)] at h
        obtain rfl : i = m := by omega
        exact ⟨Nat.le_refl _, by omega, h0, hf, fun j h1 h2 _ => by omega⟩
    · rw [if_neg h0] at h
      obtain ⟨a1, a2, a3, a4, a5⟩ := ih (i + 1) m h
      refine ⟨by omega, by omega, a3, a4, fun j h1 h2 h3 => ?_⟩
      by_cases e : j = i
      · rw [e] at h3; exact absurd h3 h0
      · exact a5 j (by omega) h2 h3
def up (f : Nat → Nat) : Nat → Nat
  | 0 => 0
  | n + 1 => up f n + f n
theorem le_up (f : Nat → Nat) : ∀ (n i : Nat), i < n → f i ≤ up f n := by
  intro n
  induction n with
  | zero => intro i hi; omega
  | succ n ih =>
    intro i hi
    show f i ≤ up f n + f n
    by_cases e : i = n
    · subst e; omega
    · have := ih i (by omega); omega
theorem wins_val (h : Bo a c l p r q) (hn : l.count 0 ≤ 9) : ∃ K, ∀ k, K ≤ k → impl_gameOf.f k a c l p = some (some true) → impl_WinsMoving.f k a c l p = some (Wt r q l p, true) := by
  obtain ⟨K3, D', h3⟩ := wins_ok h hn
  refine ⟨K3, fun k hk hg => ?_⟩
  unfold impl_WinsMoving.f
  rw [hg, Option.bind_some, if_pos rfl, h3 k hk, Option.bind_some]
theorem bo_game (h : Bo a c l p r q) (hn : l.count 0 ≤ 9) : ∃ K, ∀ k, K ≤ k → impl_gameOf.f k a c l p = some (some true) := by
  obtain ⟨p1, p2, p3⟩ := player_f p
  rw [h.inr] at p2
  have h30 := h.len30
  refine ⟨l.length + 1, fun k hk => ?_⟩
  have hf := free_i l h30 l.length 0 0 k (by omega) (by omega) (by omega)
  rw [List.drop_zero, Nat.zero_add] at hf
  rw [show ((0 : Nat) : Int) = 0 from rfl] at hf
  unfold impl_gameOf.f
  rw [h.isBoard, Option.bind_some, if_pos rfl, p2, Option.bind_some, if_pos rfl, hf, Option.bind_some, decide_eq_true (by omega)]
/-- How the answers lie together. -/
theorem played (a c : Int) (l : List Int) (p : Int) (hm : l.length ≤ 31) : ∃ (K : Nat) (wins ok : Bool) (mv : Int) (one : Bool), ∀ k, K ≤ k → PlayA k a c l p wins ok mv one ∧ PlayF k a c l p wins ok mv one := by
  have hm' : l.length ≤ 1099511627776 := Nat.le_trans hm (by decide)
  obtain ⟨K1, ⟨wins, ok⟩, h1⟩ := wins_same a c l p hm'
  obtain ⟨K2, ⟨mv, one⟩, h2⟩ := first_same a c l p hm'
  obtain ⟨K3, g, hg, hb⟩ := game a c l p hm'
  have hAA : ∀ k, K1 + K2 ≤ k → PlayA k a c l p wins ok mv one := fun k hk => ⟨(h1 k (by omega)).2, (h1 k (by omega)).1, (h2 k (by omega)).2, (h2 k (by omega)).1, by omega⟩
  by_cases hx : g = some true
  · obtain ⟨⟨r, q, h⟩, h9⟩ := hb hx
    obtain ⟨K4, h4⟩ := hasWon h
    obtain ⟨K5, h5⟩ := hasWon h.other
    obtain ⟨K6, h6⟩ := wins_val h h9
    obtain ⟨K7, D7, h7⟩ := move_ok h h9
    obtain ⟨K8, h8⟩ := h.winner
    obtain ⟨o1, o2, o3⟩ := h.winO_iff
    have hp := h.hp
    have hst := h.step
    unfold stepW at hst
    have hge := M_ge (Wt r q) l p l.length 0
    have hw := w3 h.hp
    have e1 : (wins, ok) = (Wt r q l p, true) := Option.some.inj ((h1 (K1 + K3 + K6) (by omega)).2.symm.trans (h6 (K1 + K3 + K6) (by omega) (by rw [(hg _ (by omega)).1, hx])))
    injection e1 with e1 e2
    subst e1 e2
    have hfirst : ∀ k, K3 + K7 + K8 ≤ k → impl_FirstWinningMove.f k a c l p = if winO r q l = 0 then some (max (M (Wt r q) l p l.length 0) 0, decide (M (Wt r q) l p l.length 0 ≥ 0)) else some (0, false) := fun k hk => by
      unfold impl_FirstWinningMove.f
      rw [(hg k (by omega)).1, Option.bind_some, if_pos hx, h8 k (by omega), Option.bind_some, h7 k (by omega), Option.bind_some]
    have e3 := (h2 (K2 + K3 + K7 + K8) (by omega)).2.symm.trans (hfirst (K2 + K3 + K7 + K8) (by omega))
    by_cases ho : winO r q l = 0
    · rw [if_pos ho] at hst e3
      have hB : ∀ k, K4 + K5 ≤ k → PlayB k a c l p false false := fun k hk => ⟨by rw [h4 k (by omega), decide_eq_false (by omega)], by rw [hw, h5 k (by omega), decide_eq_false (by omega)]⟩
      injection e3 with e3
      injection e3 with e3 e4
      by_cases hM : 0 ≤ M (Wt r q) l p l.length 0
      · rw [decide_eq_true hM] at hst
        rw [decide_eq_true hM] at e4
        obtain ⟨m, hme⟩ := Int.eq_ofNat_of_zero_le hM
        obtain ⟨t1, t2, t3, t4, t5⟩ := M_tells (Wt r q) l p l.length 0 m hme
        have hmv : mv = (m : Int) := by rw [e3, hme]; exact Int.max_eq_left (by omega)
        subst hmv e4
        have hone : ∀ i : Nat, ∃ K : Nat, i < l.length → i ≤ m → rd l (i : Nat) = 0 → ∀ k, K ≤ k → impl_WinsMoving.f k a c (l.set i p) (wrap64 (3 - p)) = some (decide ((i : Int) < (m : Int)), true) := by
          intro i
          by_cases hi : i < l.length
          · by_cases h0 : rd l (i : Nat) = 0
            · have hc := count_set (p := p) hi h0 h.p0
              obtain ⟨K9, h10⟩ := wins_val (h.set i).other (by omega)
              obtain ⟨K10, h11⟩ := bo_game (h.set i).other (by omega)
              refine ⟨K9 + K10, fun _ hle _ k hk => ?_⟩
              rw [hw, h10 k (by omega) (h11 k (by omega))]
              congr 2
              by_cases e : i = m
              · subst e; rw [t4, decide_eq_false (by omega)]
              · rw [t5 i (by omega) (by omega) h0, decide_eq_true (by omega)]
            · exact ⟨0, fun _ _ h1 => absurd h1 h0⟩
          · exact ⟨0, fun h1 => absurd h1 hi⟩
        obtain ⟨f, hf⟩ := Classical.skolem.mp hone
        refine ⟨K1 + K2 + K4 + K5 + up f l.length, true, true, (m : Int), true, fun k hk => ⟨by have := hAA k (by omega); rw [hst] at this; exact this, .good m (hB k (by omega)) ⟨by omega, fun i hi h0 => ?_⟩⟩⟩
        exact hf i (by omega) hi h0 k (Nat.le_trans (le_up f l.length i (by omega)) (by omega))
      · rw [decide_eq_false hM] at hst
        rw [decide_eq_false hM] at e4
        subst e4
        refine ⟨K1 + K2 + K4 + K5, false, true, mv, false, fun k hk => ⟨by have := hAA k (by omega); rw [hst] at this; exact this, .bad mv (hB k (by omega))⟩⟩
    · rw [if_neg ho] at hst e3
      injection e3 with e3
      injection e3 with e3 e4
      subst e4
      by_cases hwp : winO r q l = p
      · rw [decide_eq_true hwp] at hst
        refine ⟨K1 + K2 + K4 + K5, true, true, mv, false, fun k hk => ⟨by have := hAA k (by omega); rw [hst] at this; exact this, .won mv ⟨by rw [h4 k (by omega), decide_eq_true hwp], by rw [hw, h5 k (by omega), decide_eq_false (by omega)]⟩⟩⟩
      · rw [decide_eq_false hwp] at hst
        have hwo : winO r q l = 3 - p := by rcases o3 with e | e | e; exact absurd e ho; exact absurd e hwp; exact e
        refine ⟨K1 + K2 + K4 + K5, false, true, mv, false, fun k hk => ⟨by have := hAA k (by omega); rw [hst] at this; exact this, .lost mv ⟨by rw [h4 k (by omega), decide_eq_false hwp], by rw [hw, h5 k (by omega), decide_eq_true hwo]⟩⟩⟩
  · have e1 : (wins, ok) = (false, false) := Option.some.inj ((h1 (K1 + K3) (by omega)).2.symm.trans (by unfold impl_WinsMoving.f; rw [(hg _ (by omega)).1, Option.bind_some, if_neg hx]))
    have e2 : (mv, one) = (0, false) := Option.some.inj ((h2 (K2 + K3) (by omega)).2.symm.trans (by unfold impl_FirstWinningMove.f; rw [(hg _ (by omega)).1, Option.bind_some, if_neg hx]))
    injection e1 with e1 e3
    injection e2 with e2 e4
    subst e3 e4
    exact ⟨K1 + K2, wins, false, mv, false, fun k hk => ⟨hAA k hk, .no wins mv⟩⟩
theorem shl_n {n : Nat} (h : n ≤ 9) : shl .i64 1 (n : Int) = ((2 ^ n : Nat) : Int) := Go.Proofs.Ytjajahofbhcioaa.Pure.CountWins.shl_n h
end
end BoardsPlayed

open BoardsPlayed in
theorem FnBoardsPlayed : laws_FnBoardsPlayed.Pure := by
  intro l0 l1 hb0 hb1
  obtain ⟨K1, a, c, b, p, hb, h1⟩ := Go.Proofs.Ytjajahofbhcioaa.Pyb.drawWins_tot (Go.Proofs.Ytjajahofbhcioaa.Pj.bytes_of hb0)
  obtain ⟨r, c', who, hd⟩ := Go.Proofs.Ytjajahofbhcioaa.Pyb.drawCount_ok (Go.Proofs.Ytjajahofbhcioaa.Pj.bytes_of hb1)
  obtain ⟨K2, cc, three, hc, hc2⟩ := Go.Proofs.Ytjajahofbhcioaa.Pct.count_f r c' who
  obtain ⟨K3, wins, ok, mv, one, hP⟩ := played a c b p hb
  obtain ⟨k, hk⟩ : ∃ k, K1 + K2 + K3 ≤ k := ⟨_, Nat.le_refl _⟩
  refine ⟨k, a, c, b, p, wins, ok, mv, one, r, c', who, cc, three, h1 k (by omega), (hP k (by omega)).1, (hP k (by omega)).2, ⟨hd, (hc k (by omega)).2, (hc k (by omega)).1⟩, fun h3 => ?_⟩
  obtain ⟨other, n, hn, hw, h9, hs, he⟩ := hc2 h3
  exact ⟨other, (n : Int), ((2 ^ n : Nat) : Int), ⟨(hn k (by omega)).1, (hn k (by omega)).2, hw, by omega, by omega, shl_n h9, hs, he⟩⟩
end Go.Proofs.Ytjajahofbhcioaa.Pure
