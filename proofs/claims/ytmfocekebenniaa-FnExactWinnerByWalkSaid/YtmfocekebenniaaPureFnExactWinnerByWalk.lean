/- The law FnExactWinnerByWalk answers true for all ints and every list of ints: the program's WinnerByWalk and the reference's return the same, and the list is left alone. No condition. -/
import Derived.Test.YtmfocekebenniaaQx8
import Derived.Test.YtmfocekebenniaaNh
namespace Go.Proofs.Ytmfocekebenniaa.Pure
open Go.RowKit Go.Proofs.Ytmfocekebenniaa.Q Go.Proofs.Ytmfocekebenniaa.Given Go.Proofs.Ytmfocekebenniaa.Pz Go.Proofs.Ytmfocekebenniaa.Pm Go.Proofs.Ytmfocekebenniaa.Ph Go.Proofs.Ytmfocekebenniaa.Ng Go.Proofs.Ytmfocekebenniaa.Nh Go.Proofs.YtmfocekebenniaaW.PrintWords Go.Proofs.YtmfocekebenniaaW.PrintLast
open Go.Proofs.Ytmfocekebenniaa.Hw (thr thc ohr ohc)
set_option linter.unusedVariables false
set_option linter.unusedSimpArgs false

namespace WinnerByWalk
/-- What the reference's search does with one place. -/
def stF (bef : Int) (B : List Int) (t x : Int) : Int := if x = bef then t else if B.contains x then x else t
theorem search {R C p0 p1 q0 q1 : Int} (hR : 1 ≤ R ∧ R ≤ 30) (hC : 1 ≤ C ∧ C ≤ 30) (hq : -1 ≤ q0 ∧ q0 ≤ R ∧ -1 ≤ q1 ∧ q1 ≤ C) (rim : List Int) (bef : Int) (out : List (List Int)) (x9 : Int) (A : List Int) (hA : A.length ≤ 6) (d : Nat) :
    ∀ (j : Nat) (t : Int) (k : Nat), j + d = A.length → 10 ≤ k → spec_hxWalk.l1 (k + d) R rim (C + 2) x9 (cd C q0 q1) bef out t A (A.length : Int) (j : Int) = spec_hxWalk.l1 k R rim (C + 2) x9 (cd C q0 q1) bef out ((A.drop j).foldl (stF bef (aroundS R C q0 q1 6)) t) A (A.length : Int) (A.length : Int) := by
  induction d with
  | zero =>
    intro j t k hj hk
    obtain rfl : j = A.length := by omega
    rw [List.drop_eq_nil_of_le (Nat.le_refl _)]
    rfl
  | succ d ih =>
    intro j t k hj hk
    have hil : j < A.length := by omega
    have he : rd A (j : Nat) = A[j] := by unfold rd; rw [List.getD_eq_getElem?_getD, Int.toNat_natCast, List.getElem?_eq_getElem hil]; rfl
    have hl := aroundS_len R C q0 q1 6
    rw [show k + (d + 1) = (k + d) + 1 by omega, spec_hxWalk.l1, if_pos (by omega), if_pos (by omega), if_pos (by omega), wr (x := (j : Int) + 1) (by omega) (by omega), List.drop_eq_getElem_cons hil, List.foldl_cons, he,
      around_f R C q0 q1 hR hC hq (k + d) (by omega), Option.bind_some, l1Has_f _ _ (by omega) (k + d) (by omega), Option.bind_some]
    have h2 := fun t => ih (j + 1) t k (by omega) hk
    rw [show ((j + 1 : Nat) : Int) = (j : Int) + 1 by omega] at h2
    unfold stF
    by_cases h1 : A[j] = bef
    · rw [if_pos h1, if_pos h1, h2]; rfl
    · rw [if_neg h1, if_neg h1, h2, h2]
      cases (aroundS R C q0 q1 6).contains A[j] <;> rfl
theorem cd_inj {C x y x' y' : Int} (hC : 1 ≤ C) (hy : -1 ≤ y ∧ y ≤ C) (hy' : -1 ≤ y' ∧ y' ≤ C) (h : cd C x y = cd C x' y') : x = x' ∧ y = y' := by
  unfold cd at h
  have e1 : ∀ u v : Int, -1 ≤ v → v ≤ C → ((C + 2) * (u + 1) + (v + 1)) / (C + 2) = u + 1 := fun u v h1 h2 => by
    rw [Int.mul_add_ediv_left _ _ (by omega), Int.ediv_eq_zero_of_lt (by omega) (by omega), Int.add_zero]
  have h1 := e1 x y hy.1 hy.2
  have h2 := e1 x' y' hy'.1 hy'.2
  rw [h] at h1
  have h3 : x = x' := by omega
  subst h3
  exact ⟨rfl, by omega⟩
theorem mem_around (R C q0 q1 v : Int) (n : Nat) : v ∈ aroundS R C q0 q1 n ↔ ∃ m, m < n ∧ tIn R C (q0 + stR m) (q1 + stC m) = true ∧ v = cd C (q0 + stR m) (q1 + stC m) := by
  induction n with
  | zero => simp [aroundS]
  | succ n ih =>
    have hs : (∃ m, m < n + 1 ∧ tIn R C (q0 + stR m) (q1 + stC m) = true ∧ v = cd C (q0 + stR m) (q1 + stC m)) ↔ (∃ m, m < n ∧ tIn R C (q0 + stR m) (q1 + stC m) = true ∧ v = cd C (q0 + stR m) (q1 + stC m)) ∨ (tIn R C (q0 + stR n) (q1 + stC n) = true ∧ v = cd C (q0 + stR n) (q1 + stC n)) := by
      constructor
      · rintro ⟨m, h1, h2⟩
        by_cases e : m = n
        · subst e; exact .inr h2
        · exact .inl ⟨m, by omega, h2⟩
      · rintro (⟨m, h1, h2⟩ | h)
        · exact ⟨m, by omega, h2⟩
        · exact ⟨n, by omega, h⟩
    rw [hs, ← ih, aroundS]
    cases hh : tIn R C (q0 + stR n) (q1 + stC n) with
    | true => rw [if_pos rfl, List.mem_append, List.mem_singleton]; simp
    | false => rw [if_neg (by decide)]; simp
theorem near_steps (x y : Int) : tNear x y = true ↔ ∃ m, m < 6 ∧ x = -(stR m) ∧ y = -(stC m) := by
  constructor
  · intro h
    unfold tNear at h
    simp only [Bool.or_eq_true, Bool.and_eq_true, beq_iff_eq] at h
    rcases h with (((((⟨rfl, rfl⟩ | ⟨rfl, rfl⟩) | ⟨rfl, rfl⟩) | ⟨rfl, rfl⟩) | ⟨rfl, rfl⟩) | ⟨rfl, rfl⟩)
    · exact ⟨5, by omega, rfl, rfl⟩
    · exact ⟨4, by omega, rfl, rfl⟩
    · exact ⟨3, by omega, rfl, rfl⟩
    · exact ⟨2, by omega, rfl, rfl⟩
    · exact ⟨1, by omega, rfl, rfl⟩
    · exact ⟨0, by omega, rfl, rfl⟩
  · rintro ⟨m, hm, rfl, rfl⟩
    match m, hm with
    | 0, _ => rfl
    | 1, _ => rfl
    | 2, _ => rfl
    | 3, _ => rfl
    | 4, _ => rfl
    | 5, _ => rfl
    | n + 6, h => omega
theorem contains_iff {R C q0 q1 a b : Int} (hC : 1 ≤ C) (h : tIn R C a b = true) : (aroundS R C q0 q1 6).contains (cd C a b) = tNear (q0 - a) (q1 - b) := by
  rw [Bool.eq_iff_iff, List.contains_iff_mem, mem_around, near_steps]
  have h' := (tIn_iff _ _ _ _).mp h
  constructor
  · rintro ⟨m, hm, h1, h2⟩
    rw [tIn_iff] at h1
    obtain ⟨e1, e2⟩ := cd_inj hC ⟨h'.2.2.1, h'.2.2.2⟩ ⟨h1.2.2.1, h1.2.2.2⟩ h2
    exact ⟨m, hm, by omega, by omega⟩
  · rintro ⟨m, hm, h1, h2⟩
    have e1 : a = q0 + stR m := by omega
    have e2 : b = q1 + stC m := by omega
    exact ⟨m, hm, by rw [← e1, ← e2]; exact h, by rw [← e1, ← e2]⟩
def lastC (C : Int) (l : List Pl) : Int := match l.getLast? with
  | none => -1
  | some w => cd C w.f0 w.f1
/-- The number of the place before. -/
def BefC (R C m0 m1 bef : Int) : Prop := (m0 = -9 ∧ m1 = -9 ∧ bef = -1) ∨ (tIn R C m0 m1 = true ∧ bef = cd C m0 m1)
theorem bef_iff {R C m0 m1 bef a b : Int} (hR : 1 ≤ R) (hC : 1 ≤ C) (h : BefC R C m0 m1 bef) (ht : tIn R C a b = true) : cd C a b = bef ↔ plEq ⟨a, b⟩ m0 m1 = true := by
  rw [plEq_iff]
  have h' := (tIn_iff _ _ _ _).mp ht
  rcases h with ⟨rfl, rfl, rfl⟩ | ⟨hm, rfl⟩
  · have h1 : 0 ≤ (C + 2) * (a + 1) := Int.mul_nonneg (by omega) (by omega)
    constructor
    · intro e; unfold cd at e; omega
    · rintro ⟨e, _⟩
      have : a = -9 := e
      omega
  · have hm' := (tIn_iff _ _ _ _).mp hm
    constructor
    · intro e; exact cd_inj hC ⟨h'.2.2.1, h'.2.2.2⟩ ⟨hm'.2.2.1, hm'.2.2.2⟩ e
    · rintro ⟨e1, e2⟩
      have e1 : a = m0 := e1
      have e2 : b = m1 := e2
      rw [e1, e2]
theorem lastC_snoc (C : Int) (f : List Pl) (w : Pl) : lastC C (f ++ [w]) = cd C w.f0 w.f1 := by
  unfold lastC
  rw [List.getLast?_concat]
theorem fold_eq {R C p0 p1 q0 q1 m0 m1 bef : Int} (hR : 1 ≤ R) (hC : 1 ≤ C) (h : BefC R C m0 m1 bef) (B : List Int) (hB : ∀ a b, tIn R C a b = true → B.contains (cd C a b) = tNear (q0 - a) (q1 - b)) (n : Nat) : (aroundS R C p0 p1 n).foldl (stF bef B) (-1) = lastC C ((thirdsL R C p0 p1 q0 q1 n).filter (fun w => !plEq w m0 m1)) := by
  induction n with
  | zero => rfl
  | succ n ih =>
    rw [aroundS, thirdsL]
    cases hh : tIn R C (p0 + stR n) (p1 + stC n) with
    | false => rw [if_neg (by decide), Bool.false_and, if_neg (by decide)]; exact ih
    | true =>
      rw [if_pos rfl, List.foldl_append, ih, List.foldl_cons, List.foldl_nil, Bool.true_and]
      have h1 := bef_iff hR hC h hh
      have h2 := hB _ _ hh
      unfold stF
      rw [h2]
      cases hn : tNear (q0 - (p0 + stR n)) (q1 - (p1 + stC n)) with
      | false =>
        rw [if_neg (show ¬ (false = true) by decide), if_neg (show ¬ (false = true) by decide), ite_self]
      | true =>
        rw [if_pos rfl, if_pos rfl, List.filter_append]
        cases hp : plEq (⟨p0 + stR n, p1 + stC n⟩ : Pl) m0 m1 with
        | true =>
          rw [if_pos (h1.mpr hp), List.filter_cons_of_neg (by simp [hp]), List.filter_nil, List.append_nil]
        | false =>
          rw [if_neg (fun e => by rw [h1.mp e] at hp; cases hp), List.filter_cons_of_pos (by simp [hp]), List.filter_nil, lastC_snoc]
theorem walk_from {R C : Int} {l : List Int} (hF : FullP R C l) {N K : Nat} {sK : StD} (hN : (N : Int) = cd C (R + 1) (-1)) (hK : Hw.seq R C (He.one R C (ownL C l)) st0 K = some sK) (hn : Hw.next R C (He.one R C (ownL C l)) sK = none) (hKl : K < 2000000) (d : Nat) :
    ∀ (j : Nat) (s : StD) (m0 m1 bef : Int) (O : List (List Int)), j + d = K → Hw.seq R C (He.one R C (ownL C l)) st0 j = some s → Bef R C s m0 m1 → BefC R C m0 m1 bef → O.length = j →
      ∃ O' x, O'.length = K ∧ ∀ k, 20 * d + 30 ≤ k → spec_hxWalk.l0 k R (rimL R C l N) (C + 2) (cd C s.a s.b) (cd C s.x s.y) bef (O ++ [[cd C s.a s.b, cd C s.x s.y]]) = some (O' ++ [[cd C sK.a sK.b, x]]) := by
  have HG := Hw.seq_good (He.start_good (own := ownL C l) hF.1.1.1 hF.1.2.1).1
  obtain ⟨s1, s2⟩ := hF.1
  have main : ∀ (j : Nat) (s : StD) (m0 m1 bef : Int) (O : List (List Int)), Hw.seq R C (He.one R C (ownL C l)) st0 j = some s → Bef R C s m0 m1 → BefC R C m0 m1 bef → O.length < 3000000 → ∀ k, 20 ≤ k →
      spec_hxWalk.l0 k R (rimL R C l N) (C + 2) (cd C s.a s.b) (cd C s.x s.y) bef O = spec_hxWalk.l1 (k - 1 - (aroundS R C s.a s.b 6).length) R (rimL R C l N) (C + 2) (cd C s.a s.b) (cd C s.x s.y) bef O (lastC C (pick1 R C s)) (aroundS R C s.a s.b 6) ((aroundS R C s.a s.b 6).length : Int) ((aroundS R C s.a s.b 6).length : Int) := by
    intro j s m0 m1 bef O hs hB hBC hO k hk
    obtain ⟨g1, g2, _, _, g5⟩ := HG j s hs
    have g1' := (tIn_iff _ _ _ _).mp (show tIn R C s.a s.b = true from g1)
    have g2' := (tIn_iff _ _ _ _).mp (show tIn R C s.x s.y = true from g2)
    have hl := aroundS_len R C s.a s.b 6
    obtain ⟨k, rfl⟩ : ∃ m, k = m + 1 + (aroundS R C s.a s.b 6).length := ⟨k - 1 - (aroundS R C s.a s.b 6).length, by omega⟩
    rw [show k + 1 + (aroundS R C s.a s.b 6).length = (k + (aroundS R C s.a s.b 6).length) + 1 by omega, spec_hxWalk.l0, around_f R C s.a s.b s1 s2 g1' _ (by omega), Option.bind_some]
    have h1 := search (p0 := s.a) (p1 := s.b) s1 s2 g2' (rimL R C l N) bef O (cd C s.a s.b) (aroundS R C s.a s.b 6) hl (aroundS R C s.a s.b 6).length 0 (-1) k (by omega) (by omega)
    rw [List.drop_zero, fold_eq s1.1 s2.1 hBC _ (fun a b h => contains_iff s2.1 h) 6, (pair_sel s1.1 s2.1 g5 hB).1] at h1
    rw [show k + (aroundS R C s.a s.b 6).length + 1 - 1 - (aroundS R C s.a s.b 6).length = k by omega]
    exact h1
  have ends : ∀ (k : Nat) (x9 x10 bef t n : Int) (O : List (List Int)) (A : List Int), 1 ≤ k → spec_hxWalk.l1 k R (rimL R C l N) (C + 2) x9 x10 bef O t A n n = if t < 0 then some O else (if 0 ≤ t then (if t < ((rimL R C l N).length : Int) then (if (rd (rimL R C l N) t) = 1 then (if O.length < 5864062014805 then (spec_hxWalk.l0 (k - 1) R (rimL R C l N) (C + 2) t x10 x9 (O ++ [[t, x10]])) else none) else (if O.length < 5864062014805 then (spec_hxWalk.l0 (k - 1) R (rimL R C l N) (C + 2) x9 t x10 (O ++ [[x9, t]])) else none)) else none) else none) := by
    intro k x9 x10 bef t n O A hk
    obtain ⟨k, rfl⟩ : ∃ m, k = m + 1 := ⟨k - 1, by omega⟩
    rw [spec_hxWalk.l1, if_neg (by omega)]
    rfl
  induction d with
  | zero =>
    intro j s m0 m1 bef O hj hs hB hBC hO
    obtain rfl : j = K := by omega
    rw [hK] at hs
    injection hs with hs
    subst hs
    refine ⟨O, cd C sK.x sK.y, hO, fun k hk => ?_⟩
    have hl := aroundS_len R C sK.a sK.b 6
    rw [main j sK m0 m1 bef _ hK hB hBC (by rw [List.length_append, List.length_singleton]; omega) k (by omega), ends _ _ _ _ _ _ _ _ (by omega), pick_none hn, if_pos (show lastC C [] < 0 by show (-1 : Int) < 0; decide)]
  | succ d ih =>
    intro j s m0 m1 bef O hj hs hB hBC hO
    obtain ⟨t, hnx, hst⟩ := seq_at hK (by omega) hs
    obtain ⟨hp1, hth, hone⟩ := pick_some hnx
    obtain ⟨g1, g2, _, _, g5⟩ := HG j s hs
    have hth' := (tIn_iff _ _ _ _).mp (show tIn R C _ _ = true from hth)
    have hcd := cd_bound s1 s2 (x := thr s.a s.b s.x s.y) ⟨hth'.1, hth'.2.1⟩ (y := thc s.a s.b s.x s.y) ⟨hth'.2.2.1, by omega⟩
    have hltN : cd C (thr s.a s.b s.x s.y) (thc s.a s.b s.x s.y) < N := by
      rw [hN, ← cd_next]
      have : (C + 2) * (thr s.a s.b s.x s.y + 1) ≤ (C + 2) * (R + 1) := Int.mul_le_mul_of_nonneg_left (by omega) (by omega)
      unfold cd
      omega
    have hrd := rd_rimL R C l (x := thr s.a s.b s.x s.y) (y := thc s.a s.b s.x s.y) s2.1 hth'.1 hth'.2.2 N hltN
    have hro := rim_one (R := R) (C := C) (l := l) (thr s.a s.b s.x s.y) (thc s.a s.b s.x s.y)
    have hlc : lastC C (pick1 R C s) = cd C (thr s.a s.b s.x s.y) (thc s.a s.b s.x s.y) := by rw [hp1]; rfl
    have hl := aroundS_len R C s.a s.b 6
    have hlen : (O ++ [[cd C s.a s.b, cd C s.x s.y]]).length = j + 1 := by rw [List.length_append, List.length_singleton, hO]
    rcases hone with ⟨h1, rfl⟩ | ⟨h1, rfl⟩
    · obtain ⟨O', x, e1, e2⟩ := ih (j + 1) _ s.a s.b (cd C s.a s.b) (O ++ [[cd C s.a s.b, cd C s.x s.y]]) (by omega) hst (bef_one g1) (.inr ⟨g1, rfl⟩) hlen
      refine ⟨O', x, e1, fun k hk => ?_⟩
      rw [main j s m0 m1 bef _ hs hB hBC (by omega) k (by omega), ends _ _ _ _ _ _ _ _ (by omega), hlc, if_neg (by omega), if_pos hcd.1, if_pos (by rw [rimL_len]; exact hltN), hrd, if_pos (hro.mpr h1), if_pos (by omega)]
      exact e2 _ (by omega)
    · obtain ⟨O', x, e1, e2⟩ := ih (j + 1) _ s.x s.y (cd C s.x s.y) (O ++ [[cd C s.a s.b, cd C s.x s.y]]) (by omega) hst (bef_two g2) (.inr ⟨g2, rfl⟩) hlen
      refine ⟨O', x, e1, fun k hk => ?_⟩
      rw [main j s m0 m1 bef _ hs hB hBC (by omega) k (by omega), ends _ _ _ _ _ _ _ _ (by omega), hlc, if_neg (by omega), if_pos hcd.1, if_pos (by rw [rimL_len]; exact hltN), hrd, if_neg (fun e => by rw [hro.mp e] at h1; cases h1), if_pos (by omega)]
      exact e2 _ (by omega)
theorem walk_f {R C : Int} {l : List Int} (hF : FullP R C l) : ∃ (B : Nat) (O : List (List Int)) (a b x : Int), O.length < 2000000 ∧ (-1 ≤ a ∧ a ≤ R ∧ -1 ≤ b ∧ b ≤ C) ∧ walkWin R C l = (if a = R then 1 else 2) ∧ ∀ k, B ≤ k → spec_hxWalk.f k R C l = some (O ++ [[cd C a b, x]]) := by
  obtain ⟨K, sK, hKl, hK, hn, he⟩ := walk_end hF
  obtain ⟨N, hN, hr⟩ := rim_f hF
  have HG := Hw.seq_good (He.start_good (own := ownL C l) hF.1.1.1 hF.1.2.1).1
  obtain ⟨g1, _, _, _, _⟩ := HG K sK hK
  obtain ⟨s1, s2⟩ := hF.1
  obtain ⟨O', x, e1, e2⟩ := walk_from hF hN hK hn hKl K 0 st0 (-9) (-9) (-1) [] (by omega) rfl (.inl ⟨rfl, rfl, rfl⟩) (.inl ⟨rfl, rfl, rfl⟩) rfl
  refine ⟨4000 + 20 * K + 30, O', sK.a, sK.b, x, by omega, (tIn_iff _ _ _ _).mp g1, ?_, fun k hk => ?_⟩
  · rcases he with ⟨h1, _, h3⟩ | ⟨h1, _, h3⟩
    · rw [h3, if_neg (by omega)]
    · rw [h3, if_pos h1]
  · unfold spec_hxWalk.f
    rw [hr k (by omega), Option.bind_some, wr (x := C + 2) (by omega) (by omega)]
    have h := e2 k (by omega)
    have c1 : cd C st0.a st0.b = 0 := by show (C + 2) * (-1 + 1) + (-1 + 1) = 0; omega
    have c2 : cd C st0.x st0.y = C + 2 := by show (C + 2) * (0 + 1) + (-1 + 1) = C + 2; omega
    rw [c1, c2] at h
    exact h
theorem same (a c : Int) (l : List Int) (hm : l.length ≤ 1099511627776) : ∃ (K : Nat) (g : Int × Bool), ∀ k, K ≤ k → spec_WinnerByWalk.f k a c l = some g ∧ impl_WinnerByWalk.f k a c l = some g := by
  obtain ⟨b, h1, h2⟩ := full_f a c l hm
  cases b with
  | false =>
    refine ⟨l.length + 1, (0, false), fun k hk => ⟨?_, ?_⟩⟩
    · unfold spec_WinnerByWalk.f; rw [(h1 k hk).1]; rfl
    · unfold impl_WinnerByWalk.f; rw [(h1 k hk).2]; rfl
  | true =>
    have hF := h2 rfl
    obtain ⟨B, O, u, v, x, hO, huv, hw, hB⟩ := walk_f hF
    obtain ⟨s1, s2⟩ := hF.1
    refine ⟨l.length + 1 + B, (walkWin a c l, true), fun k hk => ⟨?_, ?_⟩⟩
    · have hlen : (O ++ [[cd c u v, x]]).length = O.length + 1 := by rw [List.length_append, List.length_singleton]
      have hrd : rd_L1 (O ++ [[cd c u v, x]]) (O.length : Int) = [cd c u v, x] := by
        unfold rd_L1
        rw [Int.toNat_natCast, List.getD_eq_getElem?_getD, List.getElem?_append_right (Nat.le_refl _), Nat.sub_self]
        rfl
      unfold spec_WinnerByWalk.f
      rw [(h1 k (by omega)).1, Option.bind_some, if_pos rfl, hB k (by omega), Option.bind_some, hlen, show wrap64 (((O.length + 1 : Nat) : Int) - 1) = (O.length : Int) by rw [wr (by omega) (by omega)]; omega,
        if_pos (by omega), if_pos (by omega), hrd, if_pos (by simp), wr (x := c + 2) (by omega) (by omega), if_neg (by omega), show rd [cd c u v, x] 0 = cd c u v from rfl, (cd_parts s2 huv).1, wr (x := u + 1) (by omega) (by omega), wr (x := a + 1) (by omega) (by omega), hw]
      by_cases e : u = a
      · rw [if_pos (by omega), if_pos e]
      · rw [if_neg (by omega), if_neg e]
    · unfold impl_WinnerByWalk.f; rw [(h1 k (by omega)).2]; rfl
end WinnerByWalk

theorem FnExactWinnerByWalk : laws_FnExactWinnerByWalk.Pure := by
  intro a c l _ _ _ _ _
  by_cases hb : (l.length : Int) > 1048576
  · exact ⟨1, by unfold laws_FnExactWinnerByWalk.f; rw [if_pos hb]⟩
  · have hm : l.length ≤ 1099511627776 := by omega
    obtain ⟨K0, g, hg⟩ := WinnerByWalk.same a c l hm
    obtain ⟨K, hK⟩ : ∃ K, l.length + K0 ≤ K := ⟨_, Nat.le_refl _⟩
    refine ⟨K + 3, ?_⟩
    have ht : ∀ k, l.length < k → laws_toIntS.f k l = some l := fun k hk => toIntS_f l hm k hk
    have he : ∀ k, l.length < k → laws_eqIntS.f k l l = some true := fun k hk => by rw [eqIntS_f l l hm k hk]; simp
    obtain ⟨g1, g2⟩ := hg (K + 3) (by omega)
    unfold laws_FnExactWinnerByWalk.f
    rw [if_neg hb, ht _ (by omega)]
    simp only [Option.bind_some, g1, g2]
    simp [laws_FnExactWinnerByWalk.j0, ht (K + 2) (by omega), he (K + 2) (by omega)]
end Go.Proofs.Ytmfocekebenniaa.Pure
