/- Plain: the reference's neighbours of places of a board with its rim, and the rim's players. -/
import Derived.Test.YtmfocekebenniaaNg
import Derived.Test.YtmfocekebenniaaQx5
namespace Go.Proofs.Ytmfocekebenniaa.Nh
open Go.RowKit Go.Proofs.Ytmfocekebenniaa.Q Go.Proofs.Ytmfocekebenniaa.Given Go.Proofs.Ytmfocekebenniaa.Pz Go.Proofs.Ytmfocekebenniaa.Pm Go.Proofs.Ytmfocekebenniaa.Ph Go.Proofs.Ytmfocekebenniaa.Ng Go.Proofs.YtmfocekebenniaaW.PrintWords Go.Proofs.YtmfocekebenniaaW.PrintLast
set_option linter.unusedVariables false
set_option linter.unusedSimpArgs false
/-- The number of a place. -/
def cd (C x y : Int) : Int := (C + 2) * (x + 1) + (y + 1)
def aroundS (R C p0 p1 : Int) : Nat → List Int
  | 0 => []
  | m + 1 => if tIn R C (p0 + stR m) (p1 + stC m) then aroundS R C p0 p1 m ++ [cd C (p0 + stR m) (p1 + stC m)] else aroundS R C p0 p1 m
theorem aroundS_len (R C p0 p1 : Int) (m : Nat) : (aroundS R C p0 p1 m).length ≤ m := by
  induction m with
  | zero => exact Nat.le_refl _
  | succ m ih =>
    unfold aroundS
    split
    · rw [List.length_append, List.length_singleton]; omega
    · omega
def stepsL : List (List Int) := [[-1, 0], [-1, 1], [0, -1], [0, 1], [1, -1], [1, 0]]
theorem rd_stepsL (m : Nat) (hm : m < 6) : rd_L1 stepsL (m : Int) = [stR m, stC m] := by
  match m, hm with
  | 0, _ => rfl
  | 1, _ => rfl
  | 2, _ => rfl
  | 3, _ => rfl
  | 4, _ => rfl
  | 5, _ => rfl
  | n + 6, h => omega
theorem tIn_iff (R C a b : Int) : tIn R C a b = true ↔ -1 ≤ a ∧ a ≤ R ∧ -1 ≤ b ∧ b ≤ C := by unfold tIn; simp
theorem code_step {R C a b : Int} (hR : 1 ≤ R ∧ R ≤ 30) (hC : 1 ≤ C ∧ C ≤ 30) (u v s t : Int) (hs : -1 ≤ s ∧ s ≤ 1) (ht : -1 ≤ t ∧ t ≤ 1) (hu : u = a + s) (hv : v = b + t) (hi : -1 ≤ u ∧ u ≤ R ∧ -1 ≤ v ∧ v ≤ C) :
    wrap64 (wrap64 (wrap64 ((C + 2) * (wrap64 (a + 1 + s))) + (b + 1)) + t) = cd C u v := by
  have e1 : wrap64 (a + 1 + s) = u + 1 := by rw [wr (by omega) (by omega)]; omega
  have h1 : 0 ≤ (C + 2) * (u + 1) := Int.mul_nonneg (by omega) (by omega)
  have h2 : (C + 2) * (u + 1) ≤ 32 * 31 := Int.mul_le_mul (by omega) (by omega) (by omega) (by omega)
  rw [e1]
  unfold cd
  generalize (C + 2) * (u + 1) = z at *
  rw [wr (x := z) (by omega) (by omega), wr (x := z + (b + 1)) (by omega) (by omega), wr (by omega) (by omega)]
  omega
theorem around_step (R C p0 p1 : Int) (hR : 1 ≤ R ∧ R ≤ 30) (hC : 1 ≤ C ∧ C ≤ 30) (hp : -1 ≤ p0 ∧ p0 ≤ R ∧ -1 ≤ p1 ∧ p1 ≤ C) (k m : Nat) (hm : m < 6) :
    spec_hxAround.l0 (k + 1) (R + 2) (C + 2) (p0 + 1) (p1 + 1) (aroundS R C p0 p1 m) stepsL 6 (m : Int) = spec_hxAround.l0 k (R + 2) (C + 2) (p0 + 1) (p1 + 1) (aroundS R C p0 p1 (m + 1)) stepsL 6 ((m + 1 : Nat) : Int) := by
  have hst := st_bd m
  have hl := aroundS_len R C p0 p1 m
  rw [spec_hxAround.l0, if_pos (by omega), if_pos (by omega), if_pos (show (m : Int) < ((stepsL.length : Nat) : Int) by show (m : Int) < 6; omega), rd_stepsL m hm, if_pos (by simp), if_pos (by simp)]
  rw [show rd [stR m, stC m] 0 = stR m from rfl, show rd [stR m, stC m] 1 = stC m from rfl]
  rw [l1In_f, l1In_f, wr (x := (m : Int) + 1) (by omega) (by omega), wr (x := R + 2 - 1) (by omega) (by omega), wr (x := C + 2 - 1) (by omega) (by omega), wr (x := p1 + 1 + stC m) (by omega) (by omega)]
  simp only [Option.bind_some]
  have hk : ((m + 1 : Nat) : Int) = (m : Int) + 1 := by omega
  rw [hk]
  cases h1 : inRange (wrap64 (p0 + 1 + stR m)) 0 (R + 2 - 1) with
  | false =>
    have h3 : ¬ (tIn R C (p0 + stR m) (p1 + stC m) = true) := by
      intro h3
      rw [tIn_iff] at h3
      have : inRange (wrap64 (p0 + 1 + stR m)) 0 (R + 2 - 1) = true := by rw [wr (by omega) (by omega), inRange_iff]; omega
      rw [h1] at this; cases this
    rw [if_neg (by decide), aroundS, if_neg h3]
  | true =>
    rw [if_pos rfl]
    cases h2 : inRange (p1 + 1 + stC m) 0 (C + 2 - 1) with
    | false =>
      have h3 : ¬ (tIn R C (p0 + stR m) (p1 + stC m) = true) := by
        intro h3
        rw [tIn_iff] at h3
        have : inRange (p1 + 1 + stC m) 0 (C + 2 - 1) = true := by rw [inRange_iff]; omega
        rw [h2] at this; cases this
      rw [if_neg (by decide), aroundS, if_neg h3]
    | true =>
      have h3 : -1 ≤ p0 + stR m ∧ p0 + stR m ≤ R ∧ -1 ≤ p1 + stC m ∧ p1 + stC m ≤ C := by
        rw [wr (by omega) (by omega)] at h1
        rw [inRange_iff] at h1 h2
        omega
      rw [if_pos rfl, if_pos (by omega), aroundS, if_pos ((tIn_iff _ _ _ _).mpr h3), code_step (a := p0) (b := p1) hR hC (p0 + stR m) (p1 + stC m) (stR m) (stC m) hst.1 hst.2 rfl rfl h3]
theorem cd_parts {R C p0 p1 : Int} (hC : 1 ≤ C ∧ C ≤ 30) (hp : -1 ≤ p0 ∧ p0 ≤ R ∧ -1 ≤ p1 ∧ p1 ≤ C) : Int.tdiv (cd C p0 p1) (C + 2) = p0 + 1 ∧ Int.tmod (cd C p0 p1) (C + 2) = p1 + 1 := by
  have h1 : 0 ≤ (C + 2) * (p0 + 1) := Int.mul_nonneg (by omega) (by omega)
  unfold cd
  rw [Int.tdiv_eq_ediv_of_nonneg (by omega), Int.tmod_eq_emod_of_nonneg (by omega)]
  refine ⟨?_, ?_⟩
  · rw [Int.mul_add_ediv_left _ _ (by omega), Int.ediv_eq_zero_of_lt (by omega) (by omega), Int.add_zero]
  · rw [Int.mul_add_emod_self_left, Int.emod_eq_of_lt (by omega) (by omega)]
theorem around_f (R C p0 p1 : Int) (hR : 1 ≤ R ∧ R ≤ 30) (hC : 1 ≤ C ∧ C ≤ 30) (hp : -1 ≤ p0 ∧ p0 ≤ R ∧ -1 ≤ p1 ∧ p1 ≤ C) (k : Nat) (hk : 7 ≤ k) : spec_hxAround.f k (wrap64 (R + 2)) (C + 2) (cd C p0 p1) = some (aroundS R C p0 p1 6) := by
  obtain ⟨k, rfl⟩ : ∃ m, k = m + 7 := ⟨k - 7, by omega⟩
  obtain ⟨e1, e2⟩ := cd_parts hC hp
  unfold spec_hxAround.f
  rw [if_neg (by omega), Option.bind_some, e1, e2, wr (x := R + 2) (by omega) (by omega), wr (x := p0 + 1) (by omega) (by omega)]
  have h0 := around_step R C p0 p1 hR hC hp (k + 6) 0 (by omega)
  have h1 := around_step R C p0 p1 hR hC hp (k + 5) 1 (by omega)
  have h2 := around_step R C p0 p1 hR hC hp (k + 4) 2 (by omega)
  have h3 := around_step R C p0 p1 hR hC hp (k + 3) 3 (by omega)
  have h4 := around_step R C p0 p1 hR hC hp (k + 2) 4 (by omega)
  have h5 := around_step R C p0 p1 hR hC hp (k + 1) 5 (by omega)
  have h6 : spec_hxAround.l0 (k + 1) (R + 2) (C + 2) (p0 + 1) (p1 + 1) (aroundS R C p0 p1 6) stepsL 6 ((6 : Nat) : Int) = some (aroundS R C p0 p1 6) := by rw [spec_hxAround.l0, if_neg (by omega)]
  exact h0.trans (h1.trans (h2.trans (h3.trans (h4.trans (h5.trans h6)))))
theorem l1Has_l0 (l : List Int) (x : Int) (hm : l.length ≤ 1000000) (d : Nat) : ∀ (i k : Nat), i + d = l.length → d < k → spec_l1Has.l0 k x l (l.length : Int) (i : Int) = some ((l.drop i).contains x) := by
  induction d with
  | zero =>
    intro i k hi hk
    obtain ⟨k, rfl⟩ : ∃ m, k = m + 1 := ⟨k - 1, by omega⟩
    rw [spec_l1Has.l0, if_neg (by omega), List.drop_eq_nil_of_le (by omega)]
    rfl
  | succ d ih =>
    intro i k hi hk
    obtain ⟨k, rfl⟩ : ∃ m, k = m + 1 := ⟨k - 1, by omega⟩
    have hil : i < l.length := by omega
    have he : rd l (i : Nat) = l[i] := by unfold rd; rw [List.getD_eq_getElem?_getD, Int.toNat_natCast, List.getElem?_eq_getElem hil]; rfl
    rw [spec_l1Has.l0, if_pos (by omega), if_pos (by omega), if_pos (by omega), wr (x := (i : Int) + 1) (by omega) (by omega), List.drop_eq_getElem_cons hil, List.contains_cons, he]
    by_cases hx : l[i] = x
    · rw [if_pos hx, hx]; simp
    · rw [if_neg hx, show (x == l[i]) = false from beq_eq_false_iff_ne.mpr (fun h => hx h.symm), Bool.false_or]
      exact_mod_cast ih (i + 1) k (by omega) (by omega)
theorem l1Has_f (l : List Int) (x : Int) (hm : l.length ≤ 1000000) (k : Nat) (hk : l.length < k) : spec_l1Has.f k l x = some (l.contains x) := by
  unfold spec_l1Has.f
  exact l1Has_l0 l x hm l.length 0 k (by omega) hk

/-! the rim -/
def rimV (R C : Int) (l : List Int) (x y : Int) : Int := if 0 ≤ x ∧ x < R ∧ 0 ≤ y ∧ y < C then rd l (C * x + y) else if (x = -1 ∧ y < C) ∨ (x = R ∧ 0 ≤ y) then 1 else 2
theorem rim_one {R C : Int} {l : List Int} (x y : Int) : rimV R C l x y = 1 ↔ He.one R C (ownL C l) x y = true := by
  unfold rimV
  by_cases h : 0 ≤ x ∧ x < R ∧ 0 ≤ y ∧ y < C
  · rw [if_pos h, He.one_in h]; unfold ownL; simp
  · rw [if_neg h, He.one_rim h]
    by_cases h2 : (x = -1 ∧ y < C) ∨ (x = R ∧ 0 ≤ y)
    · rw [if_pos h2]; simp [h2]
    · rw [if_neg h2]; simp only [h2, iff_false]; decide
def rimL (R C : Int) (l : List Int) (n : Nat) : List Int := (List.range n).map fun i : Nat => rimV R C l ((i : Int) / (C + 2) - 1) ((i : Int) % (C + 2) - 1)
theorem rimL_len (R C : Int) (l : List Int) (n : Nat) : (rimL R C l n).length = n := by unfold rimL; simp
theorem cd_split {C x y : Int} (hC : 1 ≤ C) (hx : -1 ≤ x) (hy : -1 ≤ y ∧ y ≤ C) (n : Nat) (hn : (n : Int) = cd C x y) : (n : Int) / (C + 2) - 1 = x ∧ (n : Int) % (C + 2) - 1 = y := by
  rw [hn]
  unfold cd
  rw [Int.mul_add_ediv_left _ _ (by omega), Int.ediv_eq_zero_of_lt (by omega) (by omega), Int.mul_add_emod_self_left, Int.emod_eq_of_lt (by omega) (by omega)]
  omega
theorem rimL_succ (R C : Int) (l : List Int) {x y : Int} (hC : 1 ≤ C) (hx : -1 ≤ x) (hy : -1 ≤ y ∧ y ≤ C) (n : Nat) (hn : (n : Int) = cd C x y) : rimL R C l (n + 1) = rimL R C l n ++ [rimV R C l x y] := by
  obtain ⟨e1, e2⟩ := cd_split hC hx hy n hn
  unfold rimL
  rw [List.range_succ, List.map_append, List.map_singleton, e1, e2]
theorem rd_rimL (R C : Int) (l : List Int) {x y : Int} (hC : 1 ≤ C) (hx : -1 ≤ x) (hy : -1 ≤ y ∧ y ≤ C) (N : Nat) (hN : cd C x y < N) : rd (rimL R C l N) (cd C x y) = rimV R C l x y := by
  have h0 : 0 ≤ cd C x y := by
    have : 0 ≤ (C + 2) * (x + 1) := Int.mul_nonneg (by omega) (by omega)
    unfold cd; omega
  obtain ⟨n, hn⟩ := Int.eq_ofNat_of_zero_le h0
  obtain ⟨e1, e2⟩ := cd_split hC hx hy n hn.symm
  unfold rd
  rw [hn, Int.toNat_natCast, List.getD_eq_getElem?_getD]
  unfold rimL
  rw [List.getElem?_map, List.getElem?_range (by omega)]
  simp only [Option.map_some, Option.getD_some]
  rw [e1, e2]
theorem rim_step {R C : Int} {l : List Int} (hF : FullP R C l) (k : Nat) (acc : List Int) (ha : acc.length ≤ 1000000) (x y : Int) (hx : -1 ≤ x ∧ x ≤ R) (hy : -1 ≤ y ∧ y ≤ C) :
    spec_hxRim.l1 (k + 2) R C l acc x y = spec_hxRim.l1 k R C l (acc ++ [rimV R C l x y]) x (y + 1) := by
  obtain ⟨⟨s1, s2⟩, hlen, hl30, hv⟩ := hF
  have hw : wrap64 (y + 1) = y + 1 := wr (by omega) (by omega)
  rw [spec_hxRim.l1, if_pos (by omega), l1In_f, l1In_f, wr (x := R - 1) (by omega) (by omega), wr (x := C - 1) (by omega) (by omega)]
  simp only [Option.bind_some]
  have hb : (if inRange x 0 (R - 1) = true then spec_hxRim.j2 (k + 1) R C l acc x y (inRange y 0 (C - 1)) else spec_hxRim.j2 (k + 1) R C l acc x y false) = spec_hxRim.j2 (k + 1) R C l acc x y (decide (0 ≤ x ∧ x < R ∧ 0 ≤ y ∧ y < C)) := by
    cases h1 : inRange x 0 (R - 1) with
    | false =>
      have : ¬ (0 ≤ x ∧ x < R ∧ 0 ≤ y ∧ y < C) := fun h => by
        have : inRange x 0 (R - 1) = true := by rw [inRange_iff]; omega
        rw [h1] at this; cases this
      rw [if_neg (by decide), decide_eq_false this]
    | true =>
      rw [if_pos rfl]
      rw [inRange_iff] at h1
      congr 1
      rw [Bool.eq_iff_iff, inRange_iff, decide_eq_true_eq]
      omega
  rw [hb, spec_hxRim.j2, hw, if_pos (show acc.length < 17592186044416 by omega), if_pos (show acc.length < 17592186044416 by omega), if_pos (show acc.length < 17592186044416 by omega)]
  unfold rimV
  by_cases hin : 0 ≤ x ∧ x < R ∧ 0 ≤ y ∧ y < C
  · have hc := cell_lt hin
    have hm : 0 ≤ C * x := Int.mul_nonneg (by omega) (by omega)
    have hw2 : wrap64 (wrap64 (C * x) + y) = C * x + y := by rw [wr (x := C * x) (by omega) (by omega), wr (by omega) (by omega)]
    rw [if_pos hin, if_pos (by simpa using hin), hw2, if_pos hc.1, if_pos (by omega)]
  · rw [if_neg hin, if_neg (by simpa using hin)]
    by_cases h1 : x = -1
    · rw [if_pos h1]
      by_cases h2 : y < C
      · rw [if_pos h2, if_pos (.inl ⟨h1, h2⟩)]
      · rw [if_neg h2, if_neg (show ¬ x = R by omega), if_neg (by omega)]
    · rw [if_neg h1]
      by_cases h2 : x = R
      · rw [if_pos h2]
        by_cases h3 : y ≥ 0
        · rw [if_pos h3, if_pos (.inr ⟨h2, h3⟩)]
        · rw [if_neg h3, if_neg (by omega)]
      · rw [if_neg h2, if_neg (by omega)]
theorem cd_bound {R C x y : Int} (hR : 1 ≤ R ∧ R ≤ 30) (hC : 1 ≤ C ∧ C ≤ 30) (hx : -1 ≤ x ∧ x ≤ R) (hy : -1 ≤ y ∧ y ≤ C + 1) : 0 ≤ cd C x y ∧ cd C x y ≤ 2000 := by
  have h1 : 0 ≤ (C + 2) * (x + 1) := Int.mul_nonneg (by omega) (by omega)
  have h2 : (C + 2) * (x + 1) ≤ 32 * 31 := Int.mul_le_mul (by omega) (by omega) (by omega) (by omega)
  unfold cd; omega
theorem cd_next (C x : Int) : cd C x (C + 1) = cd C (x + 1) (-1) := by
  unfold cd
  rw [Int.mul_add (C + 2) (x + 1) 1]; omega
theorem rim_row {R C : Int} {l : List Int} (hF : FullP R C l) (x : Int) (hx : -1 ≤ x ∧ x ≤ R) (res : List Int) (B N : Nat) (hN : (N : Int) = cd C x (C + 1)) (hres : ∀ k, B ≤ k → spec_hxRim.l0 k R C l (rimL R C l N) (x + 1) = some res) (d : Nat) :
    ∀ (y : Int) (n : Nat), -1 ≤ y → y + d = C + 1 → (n : Int) = cd C x y → ∀ k, B + 2 * d + 1 ≤ k → spec_hxRim.l1 k R C l (rimL R C l n) x y = some res := by
  induction d with
  | zero =>
    intro y n hy hd hn k hk
    obtain ⟨k, rfl⟩ : ∃ m, k = m + 1 := ⟨k - 1, by omega⟩
    obtain ⟨s1, s2⟩ := hF.1
    obtain rfl : y = C + 1 := by omega
    obtain rfl : n = N := by omega
    rw [spec_hxRim.l1, if_neg (by omega), wr (x := x + 1) (by omega) (by omega)]
    exact hres k (by omega)
  | succ d ih =>
    intro y n hy hd hn k hk
    obtain ⟨k, rfl⟩ : ∃ m, k = m + 2 := ⟨k - 2, by omega⟩
    obtain ⟨s1, s2⟩ := hF.1
    have hb := cd_bound s1 s2 hx (y := y) ⟨hy, by omega⟩
    rw [rim_step hF k _ (by rw [rimL_len]; omega) x y hx ⟨hy, by omega⟩, ← rimL_succ R C l s2.1 hx.1 ⟨hy, by omega⟩ n hn]
    refine ih (y + 1) (n + 1) (by omega) (by omega) ?_ k (by omega)
    have : cd C x (y + 1) = cd C x y + 1 := by unfold cd; omega
    omega
theorem rim_rows {R C : Int} {l : List Int} (hF : FullP R C l) (N : Nat) (hN : (N : Int) = cd C (R + 1) (-1)) (d : Nat) :
    ∀ (x : Int) (n : Nat), -1 ≤ x → x + d = R + 1 → (n : Int) = cd C x (-1) → ∀ k, 100 * d + 1 ≤ k → spec_hxRim.l0 k R C l (rimL R C l n) x = some (rimL R C l N) := by
  induction d with
  | zero =>
    intro x n hx hd hn k hk
    obtain ⟨k, rfl⟩ : ∃ m, k = m + 1 := ⟨k - 1, by omega⟩
    obtain rfl : x = R + 1 := by omega
    obtain rfl : n = N := by omega
    rw [spec_hxRim.l0, if_neg (by omega)]
  | succ d ih =>
    intro x n hx hd hn k hk
    obtain ⟨k, rfl⟩ : ∃ m, k = m + 1 := ⟨k - 1, by omega⟩
    obtain ⟨s1, s2⟩ := hF.1
    rw [spec_hxRim.l0, if_pos (by omega)]
    obtain ⟨e, he⟩ := Int.eq_ofNat_of_zero_le (show 0 ≤ C + 2 by omega)
    have hN2 := cd_next C x
    have hb := cd_bound s1 s2 (x := x) ⟨hx, by omega⟩ (y := C + 1) ⟨by omega, by omega⟩
    obtain ⟨n2, hn2⟩ := Int.eq_ofNat_of_zero_le hb.1
    exact rim_row hF x ⟨hx, by omega⟩ _ (100 * d + 1) n2 hn2.symm (fun k hk => ih (x + 1) n2 (by omega) (by omega) (by omega) k hk) e (-1) n (by omega) (by omega) hn k (by omega)
theorem rim_f {R C : Int} {l : List Int} (hF : FullP R C l) : ∃ N : Nat, (N : Int) = cd C (R + 1) (-1) ∧ ∀ k, 4000 ≤ k → spec_hxRim.f k R C l = some (rimL R C l N) := by
  obtain ⟨s1, s2⟩ := hF.1
  have h0 : 0 ≤ cd C (R + 1) (-1) := by
    rw [← cd_next]; exact (cd_bound s1 s2 (x := R) ⟨by omega, by omega⟩ (y := C + 1) ⟨by omega, by omega⟩).1
  obtain ⟨N, hN⟩ := Int.eq_ofNat_of_zero_le h0
  obtain ⟨d, hd⟩ := Int.eq_ofNat_of_zero_le (show 0 ≤ R + 2 by omega)
  refine ⟨N, hN.symm, fun k hk => ?_⟩
  unfold spec_hxRim.f
  exact rim_rows hF N hN.symm d (-1) 0 (by omega) (by omega) (by unfold cd; omega) k (by omega)
end Go.Proofs.Ytmfocekebenniaa.Nh
