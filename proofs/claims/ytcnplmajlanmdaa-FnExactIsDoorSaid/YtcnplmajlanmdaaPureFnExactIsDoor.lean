/- The law FnExactIsDoor answers true for all arguments: the program's IsDoor and the reference's return the same, and the list is left alone. No condition. -/
import Derived.Test.YtcnplmajlanmdaaQx8
import Derived.Test.YtcnplmajlanmdaaPe
namespace Go.Proofs.Ytcnplmajlanmdaa.Pure
open Go.RowKit Go.Proofs.Ytcnplmajlanmdaa.Q Go.Proofs.Ytcnplmajlanmdaa.Given Go.Proofs.Ytcnplmajlanmdaa.Pz Go.Proofs.Ytcnplmajlanmdaa.Pm Go.Proofs.Ytcnplmajlanmdaa.Pn Go.Proofs.Ytcnplmajlanmdaa.Pc Go.Proofs.Ytcnplmajlanmdaa.Pd Go.Proofs.Ytcnplmajlanmdaa.Pe Go.Proofs.YtcnplmajlanmdaaW.PrintWords Go.Proofs.YtcnplmajlanmdaaW.PrintLast

theorem FnExactIsDoor : laws_FnExactIsDoor.Pure := by
  intro a l i j _ _ _ _ _ _
  by_cases hb : (l.length : Int) > 1048576
  · exact ⟨1, by unfold laws_FnExactIsDoor.f; rw [if_pos hb]⟩
  · obtain ⟨K, hK⟩ : ∃ K, l.length + 29997 ≤ K := ⟨_, Nat.le_refl _⟩
    refine ⟨K + 3, ?_⟩
    have hm : l.length ≤ 1099511627776 := by omega
    have ht : ∀ k, l.length < k → laws_toIntS.f k l = some l := fun k hk => toIntS_f l hm k hk
    have he : ∀ k, l.length < k → laws_eqIntS.f k l l = some true := fun k hk => by rw [eqIntS_f l l hm k hk]; simp
    obtain ⟨b, h1, h2, h3⟩ := meLabels_f a l hm (K + 3) (by omega)
    have hg : ∃ g, spec_IsDoor.f (K + 3) a l i j = some g ∧  impl_IsDoor.f (K + 3) a l i j = some g := by
      cases b with
      | false =>
        refine ⟨(false, false), ?_, ?_⟩
        · unfold spec_IsDoor.f spec_doPair.f
          rw [h1]
          rfl
        · unfold impl_IsDoor.f
          rw [houseOf_no h2]
          simp [impl_IsDoor.j0]
      | true =>
        obtain ⟨cs, bd, H⟩ := hse_of h2
        obtain ⟨ps, hp⟩ := pts_of H.n1 H.n8
        obtain ⟨bi, i1, i2, i3⟩ := pt_f (i := i) H.n1 H.n8
        obtain ⟨bj, j1, j2, j3⟩ := pt_f (i := j) H.n1 H.n8
        have hf8 : inRange a 1 8 = true := by unfold inRange; simp [H.n1, H.n8]
        have hpt : impl_isPoint.f a [i, j] = some (bi && bj) := by rw [isPoint2, i2, j2, hf8]; rfl
        have hi0 : impl_IsDoor.f (K + 3) a l i j = impl_IsDoor.j0 (K + 3) a i j (!(bi && bj)) a l cs bd := by
          unfold impl_IsDoor.f
          rw [houseOf_yes h2 H.cls _ (by omega)]
          simp only [Option.bind_some, if_true]
          rw [hpt]
          rfl
        cases bi with
        | false =>
          refine ⟨(false, false), ?_, by rw [hi0]; simp [impl_IsDoor.j0]⟩
          unfold spec_IsDoor.f spec_doPair.f
          rw [h1]
          simp only [Option.bind_some, if_true]
          rw [i1]
          rfl
        | true =>
          cases bj with
          | false =>
            refine ⟨(false, false), ?_, by rw [hi0]; simp [impl_IsDoor.j0]⟩
            unfold spec_IsDoor.f spec_doPair.f
            rw [h1]
            simp only [Option.bind_some, if_true]
            rw [i1]
            simp only [Option.bind_some, if_true]
            rw [j1]
            rfl
          | true =>
            obtain ⟨i4, i5⟩ := i3 rfl
            obtain ⟨j4, j5⟩ := j3 rfl
            obtain ⟨p, rfl⟩ := Int.eq_ofNat_of_zero_le i4
            obtain ⟨q, rfl⟩ := Int.eq_ofNat_of_zero_le j4
            have hp' : p < cnt a := by omega
            have hq' : q < cnt a := by omega
            obtain ⟨nb, n3, n4⟩ := near_of hp H.n1 H.n8 p q hp' hq'
            have hlen := hp.len
            have hll := H.len
            have lp := rd_lab H.lab (i := (p : Int)) (by omega) (by omega)
            have lq := rd_lab H.lab (i := (q : Int)) (by omega) (by omega)
            have hs0 : spec_doPair.f (K + 3) a l p q = some nb := by
              unfold spec_doPair.f
              rw [h1]
              simp only [Option.bind_some, if_true]
              rw [i1]
              simp only [Option.bind_some, if_true]
              rw [j1]
              simp only [Option.bind_some, if_true]
              rw [n4 _ (by omega)]
              rfl
            have hi1 : impl_IsDoor.f (K + 3) a l p q = if nb = true then ((impl_house_isDoor.f a l cs bd p q).bind fun t => some (t, true)) else some (false, false) := by
              rw [hi0, impl_IsDoor.j0, if_neg (by decide), hp.pts _ (by omega)]
              simp only [Option.bind_some]
              rw [if_pos (by omega), if_pos (by omega), if_pos (by omega), if_pos (by omega), n3]
              rfl
            rw [hi1]
            unfold spec_IsDoor.f
            rw [hs0]
            cases nb with
            | false => exact ⟨(false, false), rfl, rfl⟩
            | true =>
              have hsd : spec_doDoor.f l p q = some (wrap64 (rd l p + rd l q) == 1) := by
                unfold spec_doDoor.f
                rw [if_pos (by omega), if_pos (by omega), if_pos (by omega), if_pos (by omega)]
              have hid : impl_house_isDoor.f a l cs bd p q = (if rd l p = rd l q then some false else if rd l p < 2 then some (decide (rd l q < 2)) else some false) := by
                unfold impl_house_isDoor.f
                rw [if_pos (by omega), if_pos (by omega), if_pos (by omega), if_pos (by omega)]
              have hd : impl_house_isDoor.f a l cs bd p q = spec_doDoor.f l p q := by
                rw [hsd, hid]
                generalize rd l (p : Int) = x at lp ⊢
                generalize rd l (q : Int) = y at lq ⊢
                obtain rfl | rfl | rfl := lab_cases lp <;> obtain rfl | rfl | rfl := lab_cases lq <;> decide +kernel
              have hsm : ∃ t, spec_doDoor.f l p q = some t := by
                unfold spec_doDoor.f
                rw [if_pos (by omega), if_pos (by omega), if_pos (by omega), if_pos (by omega)]
                exact ⟨_, rfl⟩
              obtain ⟨t, ht⟩ := hsm
              rw [hd, ht]
              exact ⟨(t, true), rfl, rfl⟩
    obtain ⟨g, g1, g2⟩ := hg
    unfold laws_FnExactIsDoor.f
    rw [if_neg hb, ht _ (by omega)]
    simp only [Option.bind_some, g1, g2]
    simp [laws_FnExactIsDoor.j0, ht (K + 2) (by omega), he (K + 2) (by omega)]
end Go.Proofs.Ytcnplmajlanmdaa.Pure
