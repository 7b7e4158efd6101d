/- Plain facts on the reference's draw of opposite labels: it ends, for all bytes, with at most 25 labels. -/
import Derived.Test.YtmdhclpkbopmdaaQx2
import Derived.Test.YtmdhclpkbopmdaaPj
namespace Go.Proofs.Ytmdhclpkbopmdaa.Pf
open Go.RowKit Go.Proofs.Ytmdhclpkbopmdaa.Q Go.Proofs.Ytmdhclpkbopmdaa.Pj Go.Proofs.YtmdhclpkbopmdaaW.PrintWords Go.Proofs.YtmdhclpkbopmdaaW.PrintLast
set_option linter.unusedVariables false
set_option linter.unusedSimpArgs false

theorem one_ok {l : List Int} (hl : Bytes l) (s1 s2 m : Int) (h0 : 0 ≤ s1) (h1 : s1 ≤ 1099511627000) : ∃ b s1' s2', spec_l1Cur_one.f l s1 s2 m = some (b, s1', s2') ∧ s1 ≤ s1' ∧ s1' ≤ s1 + 2 := by
  obtain ⟨t, a, b, e, _, _, _, h2, h3⟩ := pick_ok hl s1 s2 m h0 h1
  exact ⟨_, _, _, by unfold spec_l1Cur_one.f; rw [e, Option.bind_some], h2, h3⟩
theorem among_ok {l : List Int} (hl : Bytes l) (s1 s2 : Int) (c : List Int) (hc : 0 < c.length) (h0 : 0 ≤ s1) (h1 : s1 ≤ 1099511627000) : ∃ v s1' s2', spec_l1Cur_among.f l s1 s2 c = some (v, s1', s2') ∧ s1 ≤ s1' ∧ s1' ≤ s1 + 2 := by
  obtain ⟨t, a, b, e, h2, h3, h4, h5, h6⟩ := pick_ok hl s1 s2 (c.length : Int) h0 h1
  have ht : t < (c.length : Int) := by
    by_cases h : (1 : Int) < (c.length : Int)
    · exact h3 h
    · have := h4 (by omega); omega
  exact ⟨_, _, _, by unfold spec_l1Cur_among.f; rw [e, Option.bind_some, if_pos h2, if_pos ht], h5, h6⟩

/-- It ends. -/
def Tot (F : Nat → Option (Int × List Int × Int × Int)) : Prop := ∃ (K : Nat) (r : Int × List Int × Int × Int), r.2.1.length ≤ 25 ∧ ∀ k, K ≤ k → F k = some r
theorem Tot.s {F F' : Nat → Option (Int × List Int × Int × Int)} (h : Tot F) (e : ∀ k, F' (k + 1) = F k) : Tot F' := by
  obtain ⟨K, r, hr, hk⟩ := h
  refine ⟨K + 1, r, hr, fun k hkk => ?_⟩
  obtain ⟨k, rfl⟩ : ∃ m, k = m + 1 := ⟨k - 1, by omega⟩
  rw [e k]
  exact hk k (by omega)
theorem Tot.e {F F' : Nat → Option (Int × List Int × Int × Int)} (h : Tot F) (e : ∀ k, F' k = F k) : Tot F' := by
  obtain ⟨K, r, hr, hk⟩ := h
  exact ⟨K, r, hr, fun k hkk => (e k).trans (hk k hkk)⟩

section
variable {l : List Int} {n : Int}
theorem at_ok (hn : n = 1 ∨ n = 2) (t : Int) : ∃ a, spec_opAt.f n t = some a := by
  unfold spec_opAt.f
  rcases hn with rfl | rfl
  · exact ⟨_, if_neg (by decide +kernel)⟩
  · exact ⟨_, if_neg (by decide +kernel)⟩
theorem abs_ok (x : Int) : ∃ a, spec_l1Abs.f x = some a := by
  unfold spec_l1Abs.f spec_l1Most.f
  split <;> exact ⟨_, rfl⟩
theorem wi {i d N : Nat} (h : i + (d + 1) = N) (hN : N ≤ 25) : wrap64 ((i : Int) + 1) = ((i + 1 : Nat) : Int) ∧ (i + 1) + d = N := by
  refine ⟨?_, by omega⟩
  rw [wr (by omega) (by omega)]; omega

theorem l2_tot (hl : Bytes l) (hn : n = 1 ∨ n = 2) {N : Nat} (h1 : 1 ≤ N) (h25 : N ≤ 25) (d : Nat) : ∀ (i : Nat) (x : List Int) (s1 s2 : Int), i + d = N → x.length = N → 0 ≤ s1 → s1 ≤ 1000000 →
    Tot (fun k => spec_l1Cur_opposite.l2 k n x (N : Int) (i : Int) l s1 s2) := by
  induction d with
  | zero =>
    intro i x s1 s2 hi hx h0 h2
    obtain ⟨t, a1, a2, e1, t0, t1, t2, b1, b2⟩ := pick_ok hl s1 s2 12 h0 (by omega)
    have hend : ∀ k, spec_l1Cur_opposite.l2 (k + 1) n x (N : Int) (i : Int) l s1 s2 = ((if t = 0 then ((spec_l1Cur_pick.f l a1 a2 (x.length : Int)).bind fun bt286 => ((spec_l1Cur_among.f l bt286.2.1 bt286.2.2 (([0, 3, (-3), 1, 4611686018427387904] : List Int))).bind fun bt292 => (if 0 ≤ bt286.1 then (if bt286.1 < (x.length : Int) then (some (n, (x.set (bt286.1 : Int).toNat bt292.1), bt292.2.1, bt292.2.2)) else (none)) else (none)))) else (if t = 1 then ((spec_l1Cur_among.f l a1 a2 (([0, 3, 4, 5] : List Int))).bind fun bt299 => (some (bt299.1, x, bt299.2.1, bt299.2.2))) else (some (n, x, a1, a2))))) := by
      intro k
      rw [spec_l1Cur_opposite.l2, if_neg (by omega), e1, Option.bind_some]
    have hv : ∃ r : Int × List Int × Int × Int, r.2.1.length ≤ 25 ∧ ((if t = 0 then ((spec_l1Cur_pick.f l a1 a2 (x.length : Int)).bind fun bt286 => ((spec_l1Cur_among.f l bt286.2.1 bt286.2.2 (([0, 3, (-3), 1, 4611686018427387904] : List Int))).bind fun bt292 => (if 0 ≤ bt286.1 then (if bt286.1 < (x.length : Int) then (some (n, (x.set (bt286.1 : Int).toNat bt292.1), bt292.2.1, bt292.2.2)) else (none)) else (none)))) else (if t = 1 then ((spec_l1Cur_among.f l a1 a2 (([0, 3, 4, 5] : List Int))).bind fun bt299 => (some (bt299.1, x, bt299.2.1, bt299.2.2))) else (some (n, x, a1, a2))))) = some r := by
      by_cases c : t = 0
      · obtain ⟨u, a3, a4, e2, u0, u1, u2, b3, b4⟩ := pick_ok hl a1 a2 (x.length : Int) (by omega) (by omega)
        obtain ⟨v, a5, a6, e3, b5, b6⟩ := among_ok hl a3 a4 [0, 3, (-3), 1, 4611686018427387904] (by simp) (by omega) (by omega)
        have hu : u < (x.length : Int) := by
          by_cases h : (1 : Int) < (x.length : Int)
          · exact u1 h
          · have := u2 (by omega); omega
        rw [if_pos c, e2, Option.bind_some]
        simp only
        rw [e3, Option.bind_some, if_pos u0, if_pos hu]
        exact ⟨_, by simp only [List.length_set]; omega, rfl⟩
      · by_cases c2 : t = 1
        · obtain ⟨v, a5, a6, e3, b5, b6⟩ := among_ok hl a1 a2 [0, 3, 4, 5] (by simp) (by omega) (by omega)
          rw [if_neg c, if_pos c2, e3, Option.bind_some]
          exact ⟨_, by show x.length ≤ 25; omega, rfl⟩
        · rw [if_neg c, if_neg c2]
          exact ⟨_, by show x.length ≤ 25; omega, rfl⟩
    obtain ⟨r, hr, hv⟩ := hv
    refine ⟨1, r, hr, fun k hk => ?_⟩
    obtain ⟨k, rfl⟩ : ∃ m, k = m + 1 := ⟨k - 1, by omega⟩
    exact (hend k).trans hv
  | succ d ih =>
    intro i x s1 s2 hi hx h0 h2
    obtain ⟨hw, e0⟩ := wi hi h25
    obtain ⟨a, ha⟩ := at_ok hn (i : Int)
    obtain ⟨p, hp⟩ := abs_ok a.1
    obtain ⟨q, hq⟩ := abs_ok a.2
    have hw2 : wrap64 ((x.length : Int) - 1) = (N : Int) - 1 := by rw [hx]; exact wr (by omega) (by omega)
    have hw3 : wrap64 ((N : Int) - 1 - (i : Int)) = (N : Int) - 1 - (i : Int) := wr (by omega) (by omega)
    have hs : ∀ y : List Int, y.length = N → Tot (fun k => spec_l1Cur_opposite.l2 k n y (N : Int) ((i + 1 : Nat) : Int) l s1 s2) := fun y hy => ih (i + 1) y s1 s2 e0 hy h0 h2
    have c1 : (i : Int) < (N : Int) := by omega
    have c2 : (0 : Int) ≤ (i : Int) := by omega
    have c3 : (i : Int) < (x.length : Int) := by omega
    have c4 : (0 : Int) ≤ (N : Int) - 1 - (i : Int) := by omega
    have c5 : (N : Int) - 1 - (i : Int) < (x.length : Int) := by omega
    by_cases d1 : p = n
    · refine (hs (x.set ((N : Int) - 1 - (i : Int)).toNat (wrap64 (-(rd x (i : Int))))) (by rw [List.length_set]; exact hx)).s (fun k => ?_)
      rw [spec_l1Cur_opposite.l2, if_pos c1, ha, Option.bind_some, hp, Option.bind_some, if_pos d1, if_pos c2, if_pos c3, hw2, hw3, if_pos c4, if_pos c5, hw]
    · by_cases d2 : q = n
      · refine (hs (x.set ((N : Int) - 1 - (i : Int)).toNat (wrap64 (-(rd x (i : Int))))) (by rw [List.length_set]; exact hx)).s (fun k => ?_)
        rw [spec_l1Cur_opposite.l2, if_pos c1, ha, Option.bind_some, hp, Option.bind_some, if_neg d1, hq, Option.bind_some, if_pos d2, if_pos c2, if_pos c3, hw2, hw3, if_pos c4, if_pos c5, hw]
      · refine (hs _ hx).s (fun k => ?_)
        rw [spec_l1Cur_opposite.l2, if_pos c1, ha, Option.bind_some, hp, Option.bind_some, if_neg d1, hq, Option.bind_some, if_neg d2, hw]

theorem j5_tot (hl : Bytes l) (hn : n = 1 ∨ n = 2) {x : List Int} {N : Nat} (h1 : 1 ≤ N) (h25 : N ≤ 25) (hx : x.length = N) (s1 s2 : Int) (h0 : 0 ≤ s1) (h2 : s1 ≤ 1000000) : Tot (fun k => spec_l1Cur_opposite.j5 k n x l s1 s2) := by
  refine (l2_tot hl hn h1 h25 N 0 x s1 s2 (by omega) hx h0 h2).s (fun k => ?_)
  rw [spec_l1Cur_opposite.j5, hx]
  rfl

theorem four {c x7 : Int} (hc : 0 ≤ c ∧ c ≤ 3) (h : 0 ≤ x7 ∧ x7 < 4) : 0 ≤ Int.tmod (wrap64 (c + x7)) 4 ∧ Int.tmod (wrap64 (c + x7)) 4 < 4 := by
  rw [wr (by omega) (by omega), Int.tmod_eq_emod_of_nonneg (by omega)]
  exact ⟨Int.emod_nonneg _ (by omega), Int.emod_lt_of_pos _ (by omega)⟩
theorem l1_tot (hl : Bytes l) (hn : n = 1 ∨ n = 2) {N : Nat} (h1 : 1 ≤ N) (h25 : N ≤ 25) {x7 : Int} (h7 : 0 ≤ x7 ∧ x7 < 4) (d : Nat) : ∀ (i : Nat) (x : List Int) (s1 s2 : Int), i + d = N → x.length = N → 0 ≤ s1 → s1 + 10 * (d : Int) ≤ 1000000 →
    Tot (fun k => spec_l1Cur_opposite.l1 k n x x7 (N : Int) (i : Int) l s1 s2) := by
  induction d with
  | zero =>
    intro i x s1 s2 hi hx h0 h2
    refine (j5_tot hl hn h1 h25 hx s1 s2 h0 (by omega)).s (fun k => ?_)
    rw [spec_l1Cur_opposite.l1, if_neg (by omega)]
  | succ d ih =>
    intro i x s1 s2 hi hx h0 h2
    obtain ⟨hw, e0⟩ := wi hi h25
    obtain ⟨a, ha⟩ := at_ok hn (i : Int)
    obtain ⟨b, a1, a2, e1, b1, b2⟩ := one_ok hl s1 s2 9 h0 (by omega)
    have hs : ∀ y : List Int, y.length = N → Tot (fun k => spec_l1Cur_opposite.l1 k n y x7 (N : Int) ((i + 1 : Nat) : Int) l a1 a2) := fun y hy => ih (i + 1) y a1 a2 e0 hy (by omega) (by omega)
    have c1 : (i : Int) < (N : Int) := by omega
    have c2 : (0 : Int) ≤ (i : Int) := by omega
    have c3 : (i : Int) < (x.length : Int) := by omega
    -- what follows the choice of a quarter
    have go : ∀ c : Int, 0 ≤ c ∧ c ≤ 3 → Tot (fun k => if b = true then (spec_l1Cur_opposite.l1 k n x x7 (N : Int) (wrap64 ((i : Int) + 1)) l a1 a2) else ((some (([1, 2, (-1), (-2)] : List Int) : List Int)).bind fun y245 => (if 0 ≤ (Int.tmod (wrap64 (c + x7)) 4) then (if (Int.tmod (wrap64 (c + x7)) 4) < (y245.length : Int) then (if 0 ≤ (i : Int) then (if (i : Int) < (x.length : Int) then (spec_l1Cur_opposite.l1 k n (x.set ((i : Int) : Int).toNat (rd y245 (Int.tmod (wrap64 (c + x7)) 4))) x7 (N : Int) (wrap64 ((i : Int) + 1)) l a1 a2) else (none)) else (none)) else (none)) else (none)))) := by
      intro c hc
      obtain ⟨f0, f1⟩ := four hc h7
      cases b with
      | true => exact (hs x hx).e (fun k => by rw [if_pos rfl, hw])
      | false =>
        refine (hs (x.set ((i : Int) : Int).toNat (rd [1, 2, (-1), (-2)] (Int.tmod (wrap64 (c + x7)) 4))) (by rw [List.length_set]; exact hx)).e (fun k => ?_)
        rw [if_neg (by decide), Option.bind_some, if_pos f0, if_pos (by simpa using f1), if_pos c2, if_pos c3, hw]
    have j4 : ∀ q : Bool, Tot (fun k => spec_l1Cur_opposite.j4 k n x x7 (i : Int) 3 (N : Int) (i : Int) q l s1 s2) := by
      intro q
      cases q with
      | true => exact (go 2 (by omega)).s (fun k => by rw [spec_l1Cur_opposite.j4, if_pos rfl, e1, Option.bind_some])
      | false => exact (go 3 (by omega)).s (fun k => by rw [spec_l1Cur_opposite.j4, if_neg (by decide), e1, Option.bind_some])
    have j3 : ∀ q : Bool, Tot (fun k => spec_l1Cur_opposite.j3 k n x x7 (i : Int) a.1 a.2 3 (N : Int) (i : Int) q l s1 s2) := by
      intro q
      cases q with
      | true => exact (go 1 (by omega)).s (fun k => by rw [spec_l1Cur_opposite.j3, if_pos rfl, e1, Option.bind_some])
      | false =>
        by_cases g1 : a.1 < 0
        · by_cases g2 : a.2 ≥ 0
          · exact (j4 _).s (fun k => by rw [spec_l1Cur_opposite.j3, if_neg (by decide), if_pos g1, if_pos g2])
          · exact (j4 _).s (fun k => by rw [spec_l1Cur_opposite.j3, if_neg (by decide), if_pos g1, if_neg g2])
        · exact (j4 _).s (fun k => by rw [spec_l1Cur_opposite.j3, if_neg (by decide), if_neg g1])
    have j2 : ∀ q : Bool, Tot (fun k => spec_l1Cur_opposite.j2 k n x x7 (i : Int) a.1 a.2 3 (N : Int) (i : Int) q l s1 s2) := by
      intro q
      cases q with
      | true => exact (go 0 (by omega)).s (fun k => by rw [spec_l1Cur_opposite.j2, if_pos rfl, e1, Option.bind_some])
      | false =>
        by_cases g1 : a.2 > 0
        · obtain ⟨p, hp⟩ := abs_ok a.1
          exact (j3 _).s (fun k => by rw [spec_l1Cur_opposite.j2, if_neg (by decide), if_pos g1, hp, Option.bind_some])
        · exact (j3 _).s (fun k => by rw [spec_l1Cur_opposite.j2, if_neg (by decide), if_neg g1])
    by_cases g1 : a.1 > 0
    · by_cases g2 : a.2 ≤ 0
      · exact (j2 _).s (fun k => by rw [spec_l1Cur_opposite.l1, if_pos c1, ha, Option.bind_some, if_pos g1, if_pos g2])
      · exact (j2 _).s (fun k => by rw [spec_l1Cur_opposite.l1, if_pos c1, ha, Option.bind_some, if_pos g1, if_neg g2])
    · exact (j2 _).s (fun k => by rw [spec_l1Cur_opposite.l1, if_pos c1, ha, Option.bind_some, if_neg g1])

theorem l0_tot (hl : Bytes l) (hn : n = 1 ∨ n = 2) {N : Nat} (h1 : 1 ≤ N) (h25 : N ≤ 25) (d : Nat) : ∀ (i : Nat) (x : List Int) (s1 s2 : Int), i + d = N → x.length = N → 0 ≤ s1 → s1 + 10 * (d : Int) ≤ 900000 →
    Tot (fun k => spec_l1Cur_opposite.l0 k n x (N : Int) (i : Int) l s1 s2) := by
  induction d with
  | zero =>
    intro i x s1 s2 hi hx h0 h2
    obtain ⟨b, a1, a2, e1, b1, b2⟩ := one_ok hl s1 s2 2 h0 (by omega)
    cases b with
    | true =>
      obtain ⟨t, a3, a4, e2, t0, t1, _, b3, b4⟩ := pick_ok hl a1 a2 4 (by omega) (by omega)
      refine (l1_tot hl hn h1 h25 ⟨t0, t1 (by omega)⟩ N 0 x a3 a4 (by omega) hx (by omega) (by omega)).s (fun k => ?_)
      rw [spec_l1Cur_opposite.l0, if_neg (by omega), e1, Option.bind_some, if_pos rfl, e2, Option.bind_some, hx]
      rfl
    | false =>
      refine (j5_tot hl hn h1 h25 hx a1 a2 (by omega) (by omega)).s (fun k => ?_)
      rw [spec_l1Cur_opposite.l0, if_neg (by omega), e1, Option.bind_some, if_neg (by simp)]
  | succ d ih =>
    intro i x s1 s2 hi hx h0 h2
    obtain ⟨hw, e0⟩ := wi hi h25
    obtain ⟨v, a1, a2, e1, b1, b2⟩ := among_ok hl s1 s2 [1, 2, (-1), (-2)] (by simp) h0 (by omega)
    refine (ih (i + 1) (x.set ((i : Int) : Int).toNat v) a1 a2 e0 (by rw [List.length_set]; exact hx) (by omega) (by omega)).s (fun k => ?_)
    rw [spec_l1Cur_opposite.l0, if_pos (by omega), e1, Option.bind_some, if_pos (by omega), if_pos (by omega), hw]

theorem opposite_tot (hl : Bytes l) : Tot (fun k => spec_l1Cur_opposite.f k l 0 0) := by
  obtain ⟨t, s1, s2, e1, t0, t1, _, b1, b2⟩ := pick_ok hl 0 0 2 (by omega) (by omega)
  have t2 := t1 (by omega)
  have hw : wrap64 (1 + t) = 1 + t := wr (by omega) (by omega)
  obtain ⟨N, hc, n1, n25⟩ : ∃ N : Nat, spec_opCount.f (1 + t) = some (N : Int) ∧ 1 ≤ N ∧ N ≤ 25 := by
    obtain rfl | rfl : t = 0 ∨ t = 1 := by omega
    · exact ⟨9, by decide +kernel, by omega, by omega⟩
    · exact ⟨25, by decide +kernel, by omega, by omega⟩
  refine (l0_tot (n := 1 + t) hl (by omega) n1 n25 N 0 (List.replicate N 0) s1 s2 (by omega) (by simp) (by omega) (by omega)).e (fun k => ?_)
  unfold spec_l1Cur_opposite.f
  rw [e1, Option.bind_some]
  simp only
  rw [hw, hc, Option.bind_some, if_pos (by omega), if_pos (by simp; omega), Option.bind_some]
  simp
end
end Go.Proofs.Ytmdhclpkbopmdaa.Pf
