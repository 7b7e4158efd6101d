/- The law FnExactDoorsOf answers true for all ints and every list of ints: the program's DoorsOf and the reference's return the same, in memory of their own, and the list is left alone. No condition. -/
import Derived.Test.YtcnplmajlanmdaaLwDoorsOf
import Derived.Test.YtcnplmajlanmdaaPk
namespace Go.Proofs.Ytcnplmajlanmdaa.Pure
open Go.RowKit Go.Proofs.Ytcnplmajlanmdaa.Q Go.Proofs.Ytcnplmajlanmdaa.Given Go.Proofs.Ytcnplmajlanmdaa.Pz Go.Proofs.Ytcnplmajlanmdaa.Pm Go.Proofs.Ytcnplmajlanmdaa.Pn Go.Proofs.Ytcnplmajlanmdaa.Pk Go.Proofs.Ytcnplmajlanmdaa.Pg Go.Proofs.YtcnplmajlanmdaaW.PrintWords Go.Proofs.YtcnplmajlanmdaaW.PrintLast
set_option linter.unusedVariables false
set_option linter.unusedSimpArgs false

namespace DoorsOf
def Two (x : List (List Int)) : Prop := ∀ r ∈ x, r.length = 2
theorem cnt_le {n : Int} (h1 : 1 ≤ n) (h2 : n ≤ 8) : cnt n ≤ 45 := by
  obtain rfl | rfl | rfl | rfl | rfl | rfl | rfl | rfl : n = 1 ∨ n = 2 ∨ n = 3 ∨ n = 4 ∨ n = 5 ∨ n = 6 ∨ n = 7 ∨ n = 8 := by omega
  all_goals decide
/-- Both go on from here to the same end. -/
def Goes (F G : Nat → Option (List (List Int) × Bool)) : Prop := ∃ (g : List (List Int) × Bool) (K : Nat), Small g.1 ∧ ∀ k, K ≤ k → F k = some g ∧ G k = some g
theorem goes_s {F G F' G' : Nat → Option (List (List Int) × Bool)} (K0 : Nat) (hF : ∀ k, K0 ≤ k → F' (k + 1) = F k) (hG : ∀ k, K0 ≤ k → G' (k + 1) = G k) (h : Goes F G) : Goes F' G' := by
  obtain ⟨g, K, hs, hk⟩ := h
  refine ⟨g, K + K0 + 1, hs, fun k hkk => ?_⟩
  obtain ⟨m, rfl⟩ : ∃ m, k = m + 1 := ⟨k - 1, by omega⟩
  obtain ⟨a, b⟩ := hk m (by omega)
  exact ⟨by rw [hF m (by omega)]; exact a, by rw [hG m (by omega)]; exact b⟩

section
variable {a : Int} {l : List Int} {cs : List (List Int)} {bd : List Int} {ps : List S52}
theorem inner (H : Hse a l cs bd) (hp : Pts a (cnt a) ps) (i : Nat) (hi : i < cnt a) (B : Nat) (hB : B ≤ 2100) (d : Nat) : ∀ (j : Nat) (x : List (List Int)), j + d = cnt a → Two x → x.length + d ≤ B →
    (∀ y : List (List Int), Two y → y.length ≤ B → Goes (fun k => spec_DoorsOf.l0 k a l y (cnt a : Int) ((i + 1 : Nat) : Int)) (fun k => impl_DoorsOf.l0 k y ps ps (cnt a : Int) ((i + 1 : Nat) : Int) a l cs bd)) →
    Goes (fun k => spec_DoorsOf.l1 k a l x (i : Int) (j : Int) (cnt a : Int) (i : Int)) (fun k => impl_DoorsOf.l1 k x ps (i : Int) (j : Int) ps (cnt a : Int) (i : Int) a l cs bd (rd_T52 ps i).f0 (rd_T52 ps i).f1 (rd_T52 ps i).f2) := by
  have h45 := cnt_le H.n1 H.n8
  have hlen := hp.len
  have hll := H.len
  have hwi : wrap64 ((i : Int) + 1) = ((i + 1 : Nat) : Int) := by rw [wr (by omega) (by omega)]; omega
  induction d with
  | zero =>
    intro j x hj h2 hx hend
    refine goes_s 0 (fun k _ => ?_) (fun k _ => ?_) (hend x h2 (by omega))
    · show spec_DoorsOf.l1 (k + 1) _ _ _ _ _ _ _ = _
      rw [spec_DoorsOf.l1, if_neg (by omega), hwi]
    · show impl_DoorsOf.l1 (k + 1) _ _ _ _ _ _ _ _ _ _ _ _ _ _ = _
      rw [impl_DoorsOf.l1, if_neg (by omega), hwi]
  | succ d ih =>
    intro j x hj h2 hx hend
    have hjn : j < cnt a := by omega
    have hwj : wrap64 ((j : Int) + 1) = ((j + 1 : Nat) : Int) := by rw [wr (by omega) (by omega)]; omega
    obtain ⟨nb, n3, n4⟩ := near_of hp H.n1 H.n8 i j hi hjn
    have lp := rd_lab H.lab (i := (i : Int)) (by omega) (by omega)
    have lq := rd_lab H.lab (i := (j : Int)) (by omega) (by omega)
    have i0 : (0 : Int) ≤ (i : Int) := Int.natCast_nonneg i
    have j0 : (0 : Int) ≤ (j : Int) := Int.natCast_nonneg j
    have il : (i : Int) < (l.length : Int) := by omega
    have jl : (j : Int) < (l.length : Int) := by omega
    have jp : (j : Int) < (ps.length : Int) := by omega
    have hsd : spec_doDoor.f l i j = some (wrap64 (rd l i + rd l j) == 1) := by
      unfold spec_doDoor.f
      rw [if_pos i0, if_pos il, if_pos j0, if_pos jl]
    have hid : impl_house_isDoor.f a l cs bd i j = (if rd l i = rd l j then some false else if rd l i < 2 then some (decide (rd l j < 2)) else some false) := by
      unfold impl_house_isDoor.f
      rw [if_pos i0, if_pos il, if_pos j0, if_pos jl]
    have hd : impl_house_isDoor.f a l cs bd i j = spec_doDoor.f l i j := by
      rw [hsd, hid]
      generalize rd l (i : Int) = x at lp ⊢
      generalize rd l (j : Int) = y at lq ⊢
      obtain rfl | rfl | rfl := lab_cases lp <;> obtain rfl | rfl | rfl := lab_cases lq <;> decide +kernel
    rw [hsd] at hd
    generalize (wrap64 (rd l i + rd l j) == 1) = db at hsd hd
    have hS : ∀ k, 100 ≤ k → spec_DoorsOf.l1 (k + 1) a l x (i : Int) (j : Int) (cnt a : Int) (i : Int) = spec_DoorsOf.l1 k a l (if nb && db then x ++ [[(i : Int), (j : Int)]] else x) (i : Int) ((j + 1 : Nat) : Int) (cnt a : Int) (i : Int) := by
      intro k hk
      rw [spec_DoorsOf.l1, if_pos jl, n4 k hk, hwj]
      simp only [Option.bind_some]
      cases nb with
      | false => simp
      | true =>
        rw [if_pos rfl, hsd]
        simp only [Option.bind_some]
        cases db with
        | false => simp
        | true => rw [if_pos rfl, if_pos (by omega)]; simp
    have hI : ∀ k, impl_DoorsOf.l1 (k + 1) x ps (i : Int) (j : Int) ps (cnt a : Int) (i : Int) a l cs bd (rd_T52 ps i).f0 (rd_T52 ps i).f1 (rd_T52 ps i).f2 = impl_DoorsOf.l1 k (if nb && db then x ++ [[(i : Int), (j : Int)]] else x) ps (i : Int) ((j + 1 : Nat) : Int) ps (cnt a : Int) (i : Int) a l cs bd (rd_T52 ps i).f0 (rd_T52 ps i).f1 (rd_T52 ps i).f2 := by
      intro k
      rw [impl_DoorsOf.l1, if_pos jp, if_pos j0, n3, hwj]
      simp only [Option.bind_some]
      cases nb with
      | false => simp
      | true =>
        rw [if_pos rfl, hd]
        simp only [Option.bind_some]
        cases db with
        | false => simp
        | true => rw [if_pos rfl, if_pos (by omega)]; simp
    refine goes_s 100 (fun k hk => hS k hk) (fun k _ => hI k) (ih (j + 1) _ (by omega) ?_ ?_ hend)
    · intro r hr
      split at hr
      · rcases List.mem_append.mp hr with h | h
        · exact h2 r h
        · rw [List.mem_singleton.mp h]; rfl
      · exact h2 r hr
    · split
      · rw [List.length_append]; simp; omega
      · omega

theorem outer (H : Hse a l cs bd) (hp : Pts a (cnt a) ps) (d : Nat) : ∀ (i : Nat) (x : List (List Int)), i + d = cnt a → Two x → x.length + d * 45 ≤ 2100 →
    Goes (fun k => spec_DoorsOf.l0 k a l x (cnt a : Int) (i : Int)) (fun k => impl_DoorsOf.l0 k x ps ps (cnt a : Int) (i : Int) a l cs bd) := by
  have h45 := cnt_le H.n1 H.n8
  have hlen := hp.len
  induction d with
  | zero =>
    intro i x hi h2 hx
    refine ⟨(x, true), 1, ⟨by show x.length ≤ 10000; omega, fun r hr => by have := h2 r hr; omega⟩, fun k hk => ?_⟩
    obtain ⟨k, rfl⟩ : ∃ m, k = m + 1 := ⟨k - 1, by omega⟩
    refine ⟨?_, ?_⟩
    · show spec_DoorsOf.l0 (k + 1) _ _ _ _ _ = _
      rw [spec_DoorsOf.l0, if_neg (by omega)]
    · show impl_DoorsOf.l0 (k + 1) _ _ _ _ _ _ _ _ _ = _
      rw [impl_DoorsOf.l0, if_neg (by omega)]
  | succ d ih =>
    intro i x hi h2 hx
    have hin : i < cnt a := by omega
    have hwi : wrap64 ((i : Int) + 1) = ((i + 1 : Nat) : Int) := by rw [wr (by omega) (by omega)]; omega
    have hin2 := inner H hp i hin (2100 - d * 45) (by omega) (cnt a - (i + 1)) (i + 1) x (by omega) h2 (by omega) (fun y hy hyl => ih (i + 1) y (by omega) hy (by omega))
    refine goes_s 0 (fun k _ => ?_) (fun k _ => ?_) hin2
    · show spec_DoorsOf.l0 (k + 1) _ _ _ _ _ = _
      rw [spec_DoorsOf.l0, if_pos (by omega), hwi]
    · show impl_DoorsOf.l0 (k + 1) _ _ _ _ _ _ _ _ _ = _
      rw [impl_DoorsOf.l0, if_pos (by omega), if_pos (by omega), if_pos (by omega), hwi]
end
end DoorsOf

theorem FnExactDoorsOf : laws_FnExactDoorsOf.Pure := by
  intro a l _ _ _ _ hb
  have hm : l.length ≤ 1099511627776 := by omega
  obtain ⟨b, _, h2, h3⟩ := meLabels_f a l hm (l.length + 1) (by omega)
  have h1 : ∀ k, l.length + 1 ≤ k → spec_meLabels.f k a l = some b := fun k hk => by
    obtain ⟨b2, e1, e2, _⟩ := meLabels_f a l hm k (by omega)
    rw [e1]; rw [h2] at e2; exact e2.symm
  obtain ⟨K, hK⟩ : ∃ K, l.length + 30000 ≤ K := ⟨_, Nat.le_refl _⟩
  cases b with
  | false =>
    refine ⟨K, ([], false), ?_, ?_, ⟨by simp, by simp⟩⟩
    · unfold spec_DoorsOf.f; rw [h1 K (by omega)]; simp
    · unfold impl_DoorsOf.f; rw [houseOf_no h2]; simp
  | true =>
    obtain ⟨cs, bd, H⟩ := hse_of h2
    obtain ⟨ps, hp⟩ := pts_of H.n1 H.n8
    have h45 := DoorsOf.cnt_le H.n1 H.n8
    obtain ⟨g, K2, hs, hg⟩ := DoorsOf.outer H hp (cnt a) 0 [] (by omega) (fun r hr => by cases hr) (by simp; omega)
    obtain ⟨K3, hK3⟩ : ∃ K3, K + K2 ≤ K3 := ⟨_, Nat.le_refl _⟩
    obtain ⟨g1, g2⟩ := hg K3 (by omega)
    refine ⟨K3, g, ?_, ?_, hs⟩
    · unfold spec_DoorsOf.f; rw [h1 K3 (by omega)]
      simp only [Option.bind_some, if_true, H.len]
      exact g1
    · unfold impl_DoorsOf.f
      rw [houseOf_yes h2 H.cls K3 (by omega)]
      simp only [Option.bind_some, if_true, hp.pts K3 (by omega), hp.len]
      exact g2
end Go.Proofs.Ytcnplmajlanmdaa.Pure
