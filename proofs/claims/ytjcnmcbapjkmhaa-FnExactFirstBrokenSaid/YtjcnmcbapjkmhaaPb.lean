/- The program's firstBroken and the reference's meBroken say the same, for all labels. -/
import Derived.Test.YtjcnmcbapjkmhaaPn
import Derived.Test.YtjcnmcbapjkmhaaGd
import Derived.Test.YtjcnmcbapjkmhaaQx3
namespace Go.Proofs.Ytjcnmcbapjkmhaa.Pb
open Go.RowKit Go.Proofs.Ytjcnmcbapjkmhaa.Q Go.Proofs.Ytjcnmcbapjkmhaa.Given Go.Proofs.Ytjcnmcbapjkmhaa.Pz Go.Proofs.Ytjcnmcbapjkmhaa.Pm Go.Proofs.Ytjcnmcbapjkmhaa.Pn Go.Proofs.YtjcnmcbapjkmhaaW.PrintWords Go.Proofs.YtjcnmcbapjkmhaaW.PrintLast

theorem broken_l0 {n : Int} {ps : List S47} {l : List Int} (hp : Pts n l.length ps) (hl : ∀ x ∈ l, 0 ≤ x ∧ x ≤ 2) (h45 : l.length ≤ 45) (d : Nat) :
    ∀ (k i : Nat), l.length - i = d → i ≤ l.length → d + 200 < k → ∃ r, spec_meBroken.l0 k n l (l.length : Int) (i : Int) = some r ∧ brokenL ps l d (i : Int) = some r ∧ (r = -1 ∨ 0 ≤ r) := by
  induction d with
  | zero =>
    intro k i hd hi hk
    obtain ⟨k, rfl⟩ : ∃ m, k = m + 1 := ⟨k - 1, by omega⟩
    refine ⟨-1, ?_, rfl, .inl rfl⟩
    simp only [spec_meBroken.l0]
    rw [if_neg (by omega)]
  | succ d ih =>
    intro k i hd hi hk
    obtain ⟨k, rfl⟩ : ∃ m, k = m + 1 := ⟨k - 1, by omega⟩
    have hlt : i < l.length := by omega
    have hx : 0 ≤ rd l i ∧ rd l i ≤ 2 := hl _ (by rw [rd_nat, List.getD_eq_getElem?_getD, List.getElem?_eq_getElem hlt]; simp)
    obtain ⟨r, h1, h2, h3⟩ := ih k (i + 1) (by omega) (by omega) (by omega)
    have hpl := hp.len
    have hat := hp.at_ i hlt k (by omega)
    have w2 : wrap64 ((i : Int) + 1) = ((i + 1 : Nat) : Int) := by rw [wr (by omega) (by omega)]; omega
    have e : plc (rd_T47 ps i) (rd l i) = rd [(rd_T47 ps i).f0, (rd_T47 ps i).f1, (rd_T47 ps i).f2] (rd l i) := by
      generalize rd l i = x at hx
      obtain rfl | rfl | rfl : x = 0 ∨ x = 1 ∨ x = 2 := by omega
      all_goals rfl
    have s1 : spec_meBroken.l0 (k + 1) n l (l.length : Int) (i : Int) = if rd [(rd_T47 ps i).f0, (rd_T47 ps i).f1, (rd_T47 ps i).f2] (rd l i) = 0 then some (i : Int) else some r := by
      simp only [spec_meBroken.l0]
      rw [if_pos (by omega), if_pos (by omega), if_pos (by omega), hat, Option.bind_some, if_pos hx.1, if_pos (by simp; omega), w2, h1]
    have s2 : brokenL ps l (d + 1) (i : Int) = if rd [(rd_T47 ps i).f0, (rd_T47 ps i).f1, (rd_T47 ps i).f2] (rd l i) = 0 then some (i : Int) else some r := by
      simp only [brokenL]
      rw [if_pos (by omega), if_pos hx.1, if_pos (by omega), show (i : Int) + 1 = ((i + 1 : Nat) : Int) from by omega, h2, e]
    rw [s1, s2]
    by_cases c : rd [(rd_T47 ps i).f0, (rd_T47 ps i).f1, (rd_T47 ps i).f2] (rd l i) = 0
    · exact ⟨(i : Int), if_pos c, if_pos c, .inr (by omega)⟩
    · exact ⟨r, if_neg c, if_neg c, h3⟩

theorem broken_f {n : Int} {l : List Int} (hn : 1 ≤ n ∧ n ≤ 8) (hc : l.length = cnt n) (hl : ∀ x ∈ l, 0 ≤ x ∧ x ≤ 2) : ∃ r, (r = -1 ∨ 0 ≤ r) ∧ ∀ k, 300 ≤ k → spec_meBroken.f k n l = some r ∧ impl_firstBroken.f k n l = some r := by
  obtain ⟨ps, hp⟩ := pts_of hn.1 hn.2
  rw [← hc] at hp
  have h45 : l.length ≤ 45 := by rw [hc]; exact cnt_le hn.1 hn.2
  obtain ⟨r, h1, h2, h3⟩ := broken_l0 hp hl h45 l.length 300 0 (by omega) (by omega) (by omega)
  refine ⟨r, h3, fun k hk => ⟨?_, ?_⟩⟩
  · exact at_rounds (g := fun k => spec_meBroken.f k n l) (fun k => spec_meBroken.mono _ _ _) hk (by simpa [spec_meBroken.f] using h1)
  · unfold impl_firstBroken.f
    rw [hp.pts k (by omega)]
    simpa using h2
end Go.Proofs.Ytjcnmcbapjkmhaa.Pb
