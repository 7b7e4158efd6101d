/- The law FnExactCountWins answers true for all ints: the program's CountWins and the reference's return the same. No condition. -/
import Derived.Test.YtenaefpbjblmbaaQx8
import Derived.Test.YtenaefpbjblmbaaPu
import Derived.Test.YtenaefpbjblmbaaPw
import Derived.Test.YtenaefpbjblmbaaGu
namespace Go.Proofs.Ytenaefpbjblmbaa.Pure
open Go.RowKit Go.Proofs.Ytenaefpbjblmbaa.Q Go.Proofs.Ytenaefpbjblmbaa.Given Go.Proofs.Ytenaefpbjblmbaa.Pz Go.Proofs.Ytenaefpbjblmbaa.Pm Go.Proofs.Ytenaefpbjblmbaa.Ph Go.Proofs.YtenaefpbjblmbaaW.PrintWords Go.Proofs.YtenaefpbjblmbaaW.PrintLast
set_option linter.unusedVariables false
set_option linter.unusedSimpArgs false

namespace CountWins
open Go.Proofs.Ytenaefpbjblmbaa.Pu Go.Proofs.Ytenaefpbjblmbaa.Pq Go.Proofs.Ytenaefpbjblmbaa.Pt Go.Proofs.Ytenaefpbjblmbaa.Pw
theorem ev_s {α : Type} {g f : Nat → Option α} {v : α} (h : ∀ k, g (k + 1) = f k) (hf : ∃ K, ∀ k, K ≤ k → f k = some v) : ∃ K, ∀ k, K ≤ k → g k = some v := by
  obtain ⟨K, hK⟩ := hf
  refine ⟨K + 1, fun k hk => ?_⟩
  obtain ⟨m, rfl⟩ : ∃ m, k = m + 1 := ⟨k - 1, by omega⟩
  rw [h m]
  exact hK m (by omega)
def bitChk : Bool := (List.range 512).all fun m => (List.range 9).all fun i => wrap64 (1 + Go.bits .and .i64 (shr .i64 (m : Nat) (i : Nat)) 1) == 1 + ((m : Nat) : Int) / 2 ^ i % 2
set_option maxRecDepth 1000000 in
theorem bit_chk : bitChk = true := by decide +kernel
theorem bit_of {m i : Nat} (hm : m < 512) (hi : i < 9) : wrap64 (1 + Go.bits .and .i64 (shr .i64 (m : Int) (i : Int)) 1) = 1 + (m : Int) / 2 ^ i % 2 := by
  have h := bit_chk
  unfold bitChk at h
  simp only [List.all_eq_true, List.mem_range, beq_iff_eq] at h
  exact h m hm i hi
theorem shl_n {n : Nat} (h : n ≤ 9) : shl .i64 1 (n : Int) = ((2 ^ n : Nat) : Int) := by
  obtain rfl | rfl | rfl | rfl | rfl | rfl | rfl | rfl | rfl | rfl : n = 0 ∨ n = 1 ∨ n = 2 ∨ n = 3 ∨ n = 4 ∨ n = 5 ∨ n = 6 ∨ n = 7 ∨ n = 8 ∨ n = 9 := by omega
  all_goals decide +kernel
theorem cwB_val (m : Nat) : ∀ n x, x ∈ cwB m n → 1 ≤ x ∧ x ≤ 2 := by
  intro n
  induction n with
  | zero => intro x hx; cases hx
  | succ n ih =>
    intro x hx
    unfold cwB at hx
    rcases List.mem_append.mp hx with h | h
    · exact ih x h
    · rw [List.mem_singleton.mp h]
      have h1 := Int.emod_nonneg ((m : Int) / 2 ^ n) (show (2 : Int) ≠ 0 by decide)
      have h2 := Int.emod_lt_of_pos ((m : Int) / 2 ^ n) (show (0 : Int) < 2 by decide)
      omega
/-- Of each full board the program's winner is the one of whom the reference says so. -/
theorem code_tells {r q : Nat} (hr : 1 ≤ r) (hq : 1 ≤ q) (hn : r * q ≤ 30) {b : List Int} (hb : b.length = r * q) (hv : ∀ x ∈ b, 1 ≤ x ∧ x ≤ 2) {pl : Int} (hpl : pl = 1 ∨ pl = 2) :
    ∃ (K : Nat) (u wv : Int), ∀ k, K ≤ k → spec_hxNeed.f k r q b pl = some u ∧ impl_winner.f k r q b = some wv ∧ (u = 0 ↔ wv = pl) := by
  have hval := rd_val (l := b) (fun x hx => by have := hv x hx; omega)
  obtain ⟨K0, u, hu1, hu2⟩ := hxNeed_tells (r := r) (c := q) (b := b) (pl := pl) hr hq hn hb hval hpl
  obtain ⟨K1, v1, hv1, t1⟩ := need_tells (r := r) (c := q) (b := b) (pl := 1) hr hq hn hb (.inl rfl)
  obtain ⟨K2, v2, hv2, t2⟩ := need_tells (r := r) (c := q) (b := b) (pl := 2) hr hq hn hb (.inr rfl)
  have hfull : ∀ i : Nat, i < r * q → rd b i = 1 ∨ rd b i = 2 := by
    intro i hi
    have hil : i < b.length := by omega
    have he : rd b (i : Nat) = b[i] := by unfold rd; rw [List.getD_eq_getElem?_getD, Int.toNat_natCast, List.getElem?_eq_getElem hil]; rfl
    have := hv _ (List.getElem_mem hil)
    rw [← he] at this
    omega
  have hone := one_won hr hq hfull
  have z1 : v1 = 0 ↔ Cost r q b 1 0 := by
    rcases t1 with ⟨e, n1⟩ | ⟨cc, e, _, C, m1⟩
    · constructor
      · intro h; omega
      · intro h; exact absurd h (n1 _)
    · constructor
      · intro h
        have : cc = 0 := by omega
        rw [← this]; exact C
      · intro h; have := m1 _ h; omega
  have z2 : v2 = 0 ↔ Cost r q b 2 0 := by
    rcases t2 with ⟨e, n1⟩ | ⟨cc, e, _, C, m1⟩
    · constructor
      · intro h; omega
      · intro h; exact absurd h (n1 _)
    · constructor
      · intro h
        have : cc = 0 := by omega
        rw [← this]; exact C
      · intro h; have := m1 _ h; omega
  have zu : u = 0 ↔ Cost r q b pl 0 := by
    rcases hu2 with ⟨e, n1⟩ | ⟨cc, e, _, C, m1⟩
    · constructor
      · intro h; omega
      · intro h; exact absurd h (n1 _)
    · constructor
      · intro h
        have : cc = 0 := by omega
        rw [← this]; exact C
      · intro h; have := m1 _ h; omega
  refine ⟨K0 + K1 + K2 + 3, u, if v1 = 0 then 1 else 2, fun k hk => ⟨hu1 k (by omega), ?_, ?_⟩⟩
  · obtain ⟨k, rfl⟩ : ∃ m, k = m + 3 := ⟨k - 3, by omega⟩
    unfold impl_winner.f
    rw [impl_winner.l0, if_pos (by omega), hv1 _ (by omega)]
    simp only [Option.bind_some]
    by_cases h : v1 = 0
    · rw [if_pos h, if_pos h]
    · rw [if_neg h, if_neg h, show wrap64 (1 + 1) = 2 from by unfold wrap64; omega, impl_winner.l0, if_pos (by omega), hv2 _ (by omega)]
      simp only [Option.bind_some]
      have h2 : v2 = 0 := by
        rcases hone with h1 | h1
        · exact absurd (z1.mpr h1) h
        · exact z2.mpr h1
      rw [if_pos h2]
  · rw [zu]
    rcases hpl with rfl | rfl
    · rw [← z1]
      by_cases h : v1 = 0
      · simp [h]
      · simp [h]
    · by_cases h : v1 = 0
      · rw [if_pos h]
        constructor
        · intro h2; exact (not_both2 hq (z1.mp h) h2).elim
        · intro h2; omega
      · rw [if_neg h]
        constructor
        · intro _; rfl
        · intro _
          rcases hone with h1 | h1
          · exact absurd (z1.mpr h1) h
          · exact h1

section
variable {r q n : Nat} {pl : Int}
theorem l1_all (h9 : n ≤ 9) (hn : r * q = n) {v : Int × Bool} (x8 : Int) (m : Nat) (hm : m < 512) (X : Int) (d : Nat) : ∀ i : Nat, i + d = n →
    (∃ K, ∀ k, K ≤ k → ((impl_winner.f k r q (cwB m n)).bind fun t => if t = pl then impl_CountWins.l0 k r q pl (wrap64 (x8 + 1)) X (wrap64 ((m : Int) + 1)) else impl_CountWins.l0 k r q pl x8 X (wrap64 ((m : Int) + 1))) = some v) →
    ∃ K, ∀ k, K ≤ k → impl_CountWins.l1 k r q pl x8 (m : Int) (cwB m i ++ List.replicate (n - i) 0) X (m : Int) (n : Int) (i : Int) = some v := by
  induction d with
  | zero =>
    intro i hi hv
    obtain rfl : i = n := by omega
    refine ev_s (fun k => ?_) hv
    rw [impl_CountWins.l1, if_neg (by omega), Nat.sub_self, List.replicate_zero, List.append_nil]
  | succ d ih =>
    intro i hi hv
    have hw : wrap64 ((i : Int) + 1) = ((i + 1 : Nat) : Int) := by rw [wr (by omega) (by omega)]; omega
    have hl : ((cwB m i ++ List.replicate (n - i) (0 : Int)).length : Int) = (n : Int) := by simp [cwB_len]; omega
    have hset : (cwB m i ++ List.replicate (n - i) (0 : Int)).set i (1 + (m : Int) / 2 ^ i % 2) = cwB m (i + 1) ++ List.replicate (n - (i + 1)) 0 := by
      rw [List.set_append_right _ _ (by rw [cwB_len]; exact Nat.le_refl _), cwB_len, Nat.sub_self, show n - i = (n - (i + 1)) + 1 by omega, List.replicate_succ, List.set_cons_zero]
      simp [cwB]
    refine ev_s (fun k => ?_) (ih (i + 1) (by omega) hv)
    rw [impl_CountWins.l1, if_pos (by omega), if_pos (by omega), hl, if_pos (by omega), Int.toNat_natCast, bit_of hm (by omega), hset, hw]

theorem l0_all (h9 : n ≤ 9) (hn : r * q = n) (hr : 1 ≤ r) (hq : 1 ≤ q) (hpl : pl = 1 ∨ pl = 2) (m : Nat) : m ≤ 2 ^ n →
    ∃ (K : Nat) (c : Int), (∀ k, K ≤ k → cwC k r q pl n m = some c) ∧ (0 ≤ c ∧ c ≤ m) ∧
      ∀ v : Int × Bool, (∃ K, ∀ k, K ≤ k → impl_CountWins.l0 k r q pl c ((2 ^ n : Nat) : Int) (m : Int) = some v) → ∃ K, ∀ k, K ≤ k → impl_CountWins.l0 k r q pl 0 ((2 ^ n : Nat) : Int) 0 = some v := by
  have hp : 2 ^ n ≤ 512 := Nat.le_trans (Nat.pow_le_pow_right (by decide) h9) (by decide)
  induction m with
  | zero => intro _; exact ⟨0, 0, fun k _ => rfl, by omega, fun v h => h⟩
  | succ m ih =>
    intro hm
    obtain ⟨K, c, h1, hcb, h2⟩ := ih (by omega)
    obtain ⟨K2, u, wv, h3⟩ := code_tells (r := r) (q := q) hr hq (by omega) (b := cwB m n) (by rw [cwB_len, hn]) (fun x hx => cwB_val m n x hx) hpl
    refine ⟨K + K2, if u = 0 then c + 1 else c, fun k hk => ?_, by split <;> omega, fun v hv => h2 v ?_⟩
    · unfold cwC
      rw [h1 k (by omega), (h3 k (by omega)).1]
      rfl
    · have hw : wrap64 ((m : Int) + 1) = ((m + 1 : Nat) : Int) := by rw [wr (by omega) (by omega)]; omega
      have hmul : wrap64 ((r : Int) * (q : Int)) = (n : Int) := by rw [← Int.natCast_mul, hn]; exact wr (by omega) (by omega)
      have hw1 : wrap64 (c + 1) = c + 1 := wr (by omega) (by omega)
      have hstep : ∃ K, ∀ k, K ≤ k → ((impl_winner.f k r q (cwB m n)).bind fun t => if t = pl then impl_CountWins.l0 k r q pl (wrap64 (c + 1)) ((2 ^ n : Nat) : Int) (wrap64 ((m : Int) + 1)) else impl_CountWins.l0 k r q pl c ((2 ^ n : Nat) : Int) (wrap64 ((m : Int) + 1))) = some v := by
        obtain ⟨K3, hv⟩ := hv
        refine ⟨K2 + K3, fun k hk => ?_⟩
        obtain ⟨_, e2, e3⟩ := h3 k (by omega)
        rw [e2, hw, hw1]
        simp only [Option.bind_some]
        have := hv k (by omega)
        by_cases hu : u = 0
        · rw [if_pos (e3.mp hu)]; rw [if_pos hu] at this; exact this
        · rw [if_neg (fun h => hu (e3.mpr h))]; rw [if_neg hu] at this; exact this
      have h4 := l1_all (r := r) (q := q) (pl := pl) h9 hn c m (by omega) ((2 ^ n : Nat) : Int) n 0 (by omega) hstep
      refine ev_s (fun k => ?_) h4
      rw [impl_CountWins.l0, if_pos (by omega), hmul, if_pos (by omega), if_pos (by omega)]
      simp only [Option.bind_some, Int.toNat_natCast, List.length_replicate]
      rfl
end

theorem s_no {a c p : Int} (hs : hshape a c = false) (k : Nat) : spec_CountWins.f k a c p = some (0, false) := by
  unfold spec_CountWins.f; rw [hxSides_f, hs, Option.bind_some, if_neg (by decide)]
theorem i_no {a c p : Int} (hs : hshape a c = false) (k : Nat) : impl_CountWins.f (k + 1) a c p = some (0, false) := by
  unfold impl_CountWins.f; rw [isShape_f, hs]; simp [impl_CountWins.j0]
theorem s_big {a c p x : Int} (hs : hshape a c = true) (hx : a * c = x) (h0 : 0 ≤ x) (h1 : x ≤ 900) (h9 : x > 9) (k : Nat) : spec_CountWins.f k a c p = some (0, false) := by
  have hh : 0 ≤ x ∧ x ≤ 900 := ⟨h0, h1⟩
  unfold spec_CountWins.f; rw [hxSides_f, hs, hx, Option.bind_some, if_pos rfl, if_pos hh, if_pos h9]
theorem i_big {a c p x : Int} (hs : hshape a c = true) (hw : wrap64 (a * c) = x) (h9 : x > 9) (k : Nat) : impl_CountWins.f (k + 1) a c p = some (0, false) := by
  unfold impl_CountWins.f; rw [isShape_f, hs, hw]; simp only [Option.bind_some, if_true]; rw [if_pos h9]; simp [impl_CountWins.j0]
theorem s_pl {a c p x : Int} (hs : hshape a c = true) (hx : a * c = x) (h0 : 0 ≤ x) (h1 : x ≤ 900) (h9 : ¬ x > 9) (hp : spec_hxPlayer.f p = some false) (k : Nat) : spec_CountWins.f k a c p = some (0, false) := by
  have hh : 0 ≤ x ∧ x ≤ 900 := ⟨h0, h1⟩
  unfold spec_CountWins.f; rw [hxSides_f, hs, hx, Option.bind_some, if_pos rfl, if_pos hh, if_neg h9, hp, Option.bind_some, if_neg (by decide)]
theorem i_pl {a c p x : Int} (hs : hshape a c = true) (hw : wrap64 (a * c) = x) (h9 : ¬ x > 9) (hp : impl_isPlayer.f p = some false) (k : Nat) : impl_CountWins.f (k + 1) a c p = some (0, false) := by
  unfold impl_CountWins.f; rw [isShape_f, hs, hw]; simp only [Option.bind_some, if_true]; rw [if_neg h9, hp]; simp [impl_CountWins.j0]
theorem s_yes {a c p x cc : Int} {n : Nat} (hs : hshape a c = true) (hx : a * c = x) (hn : x.toNat = n) (h0 : 0 ≤ x) (h1 : x ≤ 900) (h9 : ¬ x > 9) (hp : spec_hxPlayer.f p = some true) (k : Nat) (e : cwC k a c p n (2 ^ n) = some cc) : spec_CountWins.f k a c p = some (cc, true) := by
  have hh : 0 ≤ x ∧ x ≤ 900 := ⟨h0, h1⟩
  unfold spec_CountWins.f; rw [hxSides_f, hs, hx, hn, Option.bind_some, if_pos rfl, if_pos hh, if_neg h9, hp, Option.bind_some, if_pos rfl, e, Option.bind_some]
theorem i_yes {a c p x y : Int} {v : Int × Bool} (hs : hshape a c = true) (hw : wrap64 (a * c) = x) (h0 : 0 ≤ x) (h9 : ¬ x > 9) (hp : impl_isPlayer.f p = some true) (hy : shl .i64 1 x = y) (k : Nat) (e : impl_CountWins.l0 k a c p 0 y 0 = some v) : impl_CountWins.f (k + 1) a c p = some v := by
  unfold impl_CountWins.f; rw [isShape_f, hs, hw]; simp only [Option.bind_some, if_true]; rw [if_neg h9, hp]
  simp only [Option.bind_some, Bool.not_true]
  rw [impl_CountWins.j0, if_neg (by decide), hw, if_pos h0, hy]
  exact e

theorem same (a c p : Int) : ∃ (K : Nat) (g : Int × Bool), ∀ k, K ≤ k → spec_CountWins.f k a c p = some g ∧ impl_CountWins.f k a c p = some g := by
  obtain ⟨p1, p2, p3⟩ := player_f p
  cases hs : hshape a c with
  | false =>
    refine ⟨1, (0, false), fun k hk => ?_⟩
    obtain ⟨k, rfl⟩ : ∃ m, k = m + 1 := ⟨k - 1, by omega⟩
    exact ⟨s_no hs _, i_no hs _⟩
  | true =>
    obtain ⟨r, q, rfl, rfl, h1, h2, h3, hw⟩ := shape_nat hs
    obtain ⟨n, hn⟩ : ∃ n, r * q = n := ⟨_, rfl⟩
    have hrq : (r : Int) * (q : Int) = (n : Int) := by rw [← hn, Int.natCast_mul]
    rw [hn] at hw h3
    have hb0 : (0 : Int) ≤ (n : Int) := by omega
    have hb1 : (n : Int) ≤ 900 := by omega
    by_cases h9 : n ≤ 9
    · have h9' : ¬ (n : Int) > 9 := by omega
      cases hp : inRange p 1 2 with
      | false =>
        rw [hp] at p1 p2
        refine ⟨1, (0, false), fun k hk => ?_⟩
        obtain ⟨k, rfl⟩ : ∃ m, k = m + 1 := ⟨k - 1, by omega⟩
        exact ⟨s_pl hs hrq hb0 hb1 h9' p1 _, i_pl hs hw h9' p2 _⟩
      | true =>
        rw [hp] at p1 p2
        obtain ⟨K, cc, e1, _, e2⟩ := l0_all (r := r) (q := q) (n := n) (pl := p) h9 hn h1 h2 (p3 hp) (2 ^ n) (Nat.le_refl _)
        obtain ⟨K2, e3⟩ := e2 (cc, true) ⟨1, fun k hk => by
          obtain ⟨k, rfl⟩ : ∃ m, k = m + 1 := ⟨k - 1, by omega⟩
          have hne : ¬ (((2 ^ n : Nat) : Int) < ((2 ^ n : Nat) : Int)) := Int.lt_irrefl _
          rw [impl_CountWins.l0, if_neg hne]⟩
        refine ⟨K + K2 + 1, (cc, true), fun k hk => ⟨?_, ?_⟩⟩
        · exact s_yes hs hrq (Int.toNat_natCast n) hb0 hb1 h9' p1 k (e1 k (by omega))
        · obtain ⟨k, rfl⟩ : ∃ m, k = m + 1 := ⟨k - 1, by omega⟩
          exact i_yes hs hw hb0 h9' p2 (shl_n h9) k (e3 k (by omega))
    · have h9' : (n : Int) > 9 := by omega
      refine ⟨1, (0, false), fun k hk => ?_⟩
      obtain ⟨k, rfl⟩ : ∃ m, k = m + 1 := ⟨k - 1, by omega⟩
      exact ⟨s_big hs hrq hb0 hb1 h9' _, i_big hs hw h9' _⟩
end CountWins

theorem FnExactCountWins : laws_FnExactCountWins.Pure := by
  intro a c p _ _ _
  obtain ⟨K, g, h⟩ := CountWins.same a c p
  obtain ⟨h1, h2⟩ := h K (Nat.le_refl _)
  refine ⟨K, ?_⟩
  unfold laws_FnExactCountWins.f
  rw [h1, h2]
  simp
end Go.Proofs.Ytenaefpbjblmbaa.Pure
