/- Plain facts on moved labels: where the turned and the mirrored points lie, checked one by one by the kernel for the sides 1 to 8. -/
import Derived.Test.YtjcnmcbapjkmhaaPn
import Derived.Test.YtjcnmcbapjkmhaaGi
import Derived.Test.YtjcnmcbapjkmhaaQx4
import Derived.Test.YtjcnmcbapjkmhaaQx5
namespace Go.Proofs.Ytjcnmcbapjkmhaa.Pv
open Go.RowKit Go.Proofs.Ytjcnmcbapjkmhaa.Q Go.Proofs.Ytjcnmcbapjkmhaa.Given Go.Proofs.Ytjcnmcbapjkmhaa.Pz Go.Proofs.Ytjcnmcbapjkmhaa.Pm Go.Proofs.Ytjcnmcbapjkmhaa.Pn Go.Proofs.YtjcnmcbapjkmhaaW.PrintWords Go.Proofs.YtjcnmcbapjkmhaaW.PrintLast

abbrev T3 := S47
abbrev FT : T3 → T3 := fun p => ⟨p.f1, p.f2, p.f0⟩
abbrev FM : T3 → T3 := fun p => ⟨p.f1, p.f0, p.f2⟩
def posChk (F : T3 → T3) (n : Int) (m : Nat) : Bool := match impl_points.f 100 n with
  | none => false
  | some ps => (List.range m).all fun i => spec_meIndex.f n [(F (ps.getD i z47)).f0, (F (ps.getD i z47)).f1, (F (ps.getD i z47)).f2] == some (mix F ps i) && decide (0 ≤ mix F ps i) && decide (mix F ps i < (m : Int))
set_option maxRecDepth 100000 in
theorem posT {n : Int} (h1 : 1 ≤ n) (h2 : n ≤ 8) : posChk FT n (cnt n) = true := by
  obtain rfl | rfl | rfl | rfl | rfl | rfl | rfl | rfl : n = 1 ∨ n = 2 ∨ n = 3 ∨ n = 4 ∨ n = 5 ∨ n = 6 ∨ n = 7 ∨ n = 8 := by omega
  all_goals decide +kernel
set_option maxRecDepth 100000 in
theorem posM {n : Int} (h1 : 1 ≤ n) (h2 : n ≤ 8) : posChk FM n (cnt n) = true := by
  obtain rfl | rfl | rfl | rfl | rfl | rfl | rfl | rfl : n = 1 ∨ n = 2 ∨ n = 3 ∨ n = 4 ∨ n = 5 ∨ n = 6 ∨ n = 7 ∨ n = 8 := by omega
  all_goals decide +kernel
theorem pos_at {F : T3 → T3} {n : Int} {m : Nat} {ps : List T3} (hp : Pts n m ps) (h : posChk F n m = true) (i : Nat) (hi : i < m) :
    spec_meIndex.f n [(F (ps.getD i z47)).f0, (F (ps.getD i z47)).f1, (F (ps.getD i z47)).f2] = some (mix F ps i) ∧ 0 ≤ mix F ps i ∧ mix F ps i < (m : Int) := by
  unfold posChk at h
  rw [hp.pts 100 (by omega)] at h
  simp only [List.all_eq_true, List.mem_range, Bool.and_eq_true, beq_iff_eq, decide_eq_true_eq] at h
  exact ⟨(h i hi).1.1, (h i hi).1.2, (h i hi).2⟩

theorem rd_mem {l : List Int} {x : Int} (h0 : 0 ≤ x) (h1 : x < (l.length : Int)) : rd l x ∈ l := by
  unfold rd; rw [List.getD_eq_getElem?_getD, List.getElem?_eq_getElem (by omega)]; simp

theorem turn_l0 {n : Int} {m : Nat} {ps : List T3} {l : List Int} (hp : Pts n m ps) (hm : m ≤ 45) (hl : l.length = m) (h : posChk FT n m = true) (d : Nat) : ∀ (k i : Nat), m - i = d → i ≤ m → d + 101 ≤ k →
    spec_TurnLabels.l0 k n l (movL FT (fun x => Int.tmod (wrap64 (x + 1)) 3) ps l i) (l.length : Int) (i : Int) = some (movL FT (fun x => Int.tmod (wrap64 (x + 1)) 3) ps l m, true) := by
  induction d with
  | zero =>
    intro k i hd hi hk
    obtain ⟨k, rfl⟩ : ∃ j, k = j + 1 := ⟨k - 1, by omega⟩
    obtain rfl : i = m := by omega
    unfold spec_TurnLabels.l0
    rw [if_neg (by omega)]
  | succ d ih =>
    intro k i hd hi hk
    obtain ⟨k, rfl⟩ : ∃ j, k = j + 1 := ⟨k - 1, by omega⟩
    have hlt : i < m := by omega
    obtain ⟨p1, p2, p3⟩ := pos_at hp h i hlt
    have ha := hp.at_ i hlt k (by omega)
    simp only [rd_T47, Int.toNat_natCast] at ha
    unfold spec_TurnLabels.l0
    rw [if_pos (by omega), ha]
    have w2 : wrap64 ((i : Int) + 1) = ((i + 1 : Nat) : Int) := by rw [wr (by omega) (by omega)]; omega
    simp only [Option.bind_some, List.length_cons, List.length_nil]
    rw [if_pos (by omega), if_pos (by omega), if_pos (by omega)]
    have e1 : ∀ a b c : Int, rd [a, b, c] 0 = a := fun _ _ _ => rfl
    have e2 : ∀ a b c : Int, rd [a, b, c] 1 = b := fun _ _ _ => rfl
    have e3 : ∀ a b c : Int, rd [a, b, c] 2 = c := fun _ _ _ => rfl
    rw [e1, e2, e3]
    simp only at p1
    rw [p1]
    simp only [Option.bind_some]
    rw [if_pos p2, if_pos (by omega), if_pos (by rw [movL_len]; omega), w2]
    exact ih k (i + 1) (by omega) (by omega) (by omega)

theorem mirror_l0 {n : Int} {m : Nat} {ps : List T3} {l : List Int} (hp : Pts n m ps) (hm : m ≤ 45) (hl : l.length = m) (hx : ∀ x ∈ l, 0 ≤ x ∧ x ≤ 2) (h : posChk FM n m = true) (d : Nat) : ∀ (k i : Nat), m - i = d → i ≤ m → d + 101 ≤ k →
    spec_MirrorLabels.l0 k n l (movL FM (fun x => nearP 1 0 2 x.toNat) ps l i) (l.length : Int) (i : Int) = some (movL FM (fun x => nearP 1 0 2 x.toNat) ps l m, true) := by
  induction d with
  | zero =>
    intro k i hd hi hk
    obtain ⟨k, rfl⟩ : ∃ j, k = j + 1 := ⟨k - 1, by omega⟩
    obtain rfl : i = m := by omega
    unfold spec_MirrorLabels.l0
    rw [if_neg (by omega)]
  | succ d ih =>
    intro k i hd hi hk
    obtain ⟨k, rfl⟩ : ∃ j, k = j + 1 := ⟨k - 1, by omega⟩
    have hlt : i < m := by omega
    obtain ⟨p1, p2, p3⟩ := pos_at hp h i hlt
    have ha := hp.at_ i hlt k (by omega)
    simp only [rd_T47, Int.toNat_natCast] at ha
    unfold spec_MirrorLabels.l0
    rw [if_pos (by omega), ha]
    have w2 : wrap64 ((i : Int) + 1) = ((i + 1 : Nat) : Int) := by rw [wr (by omega) (by omega)]; omega
    simp only [Option.bind_some, List.length_cons, List.length_nil]
    rw [if_pos (by omega), if_pos (by omega), if_pos (by omega)]
    have e1 : ∀ a b c : Int, rd [a, b, c] 0 = a := fun _ _ _ => rfl
    have e2 : ∀ a b c : Int, rd [a, b, c] 1 = b := fun _ _ _ => rfl
    have e3 : ∀ a b c : Int, rd [a, b, c] 2 = c := fun _ _ _ => rfl
    rw [e1, e2, e3]
    simp only at p1
    rw [p1]
    simp only [Option.bind_some]
    have hb := hx (rd l (mix FM ps i)) (rd_mem p2 (by omega))
    have hn := ih k (i + 1) (by omega) (by omega) (by omega)
    have hlen : (movL FM (fun x => nearP 1 0 2 x.toNat) ps l i).length < 17592186044416 := by rw [movL_len]; omega
    rw [if_pos p2, if_pos (by omega), w2]
    have e : (if rd l (mix FM ps i) < 2 then wrap64 (1 - rd l (mix FM ps i)) else rd l (mix FM ps i)) = nearP 1 0 2 (rd l (mix FM ps i)).toNat := by
      obtain h | h | h : rd l (mix FM ps i) = 0 ∨ rd l (mix FM ps i) = 1 ∨ rd l (mix FM ps i) = 2 := by omega
      all_goals (rw [h]; decide +kernel)
    have hn' : spec_MirrorLabels.l0 k n l (movL FM (fun x => nearP 1 0 2 x.toNat) ps l i ++ [nearP 1 0 2 (rd l (mix FM ps i)).toNat]) (l.length : Int) ((i + 1 : Nat) : Int) = some (movL FM (fun x => nearP 1 0 2 x.toNat) ps l m, true) := hn
    by_cases c : rd l (mix FM ps i) < 2
    · rw [if_pos c] at e ⊢
      rw [if_pos hlen, e]; exact hn'
    · rw [if_neg c] at e ⊢
      rw [if_pos hlen, e]; exact hn'

theorem movF_some {F : T3 → T3} {o : Int → Int} {n : Int} {l : List Int} {ps : List T3} {k : Nat} (hk : 100 ≤ k) (hp : Pts n (cnt n) ps) (ha : impl_areLabels.f n l = some true) (hc : cnt n ≤ 45) (hl : l.length = cnt n) (h : posChk F n (cnt n) = true) :
    movF F o k n l = some (movL F o ps l (cnt n), true) := by
  unfold movF
  rw [ha, hp.pts k hk]
  simp only [Option.bind_some, if_true]
  rw [if_pos ⟨by have := hp.len; omega, fun j hj => by have := pos_at hp h j (by have := hp.len; omega); rw [hl]; exact this.2⟩, hp.len]
theorem movF_none {F : T3 → T3} {o : Int → Int} {n : Int} {l : List Int} {k : Nat} (ha : impl_areLabels.f n l = some false) : movF F o k n l = some ([], false) := by
  unfold movF
  rw [ha]
  rfl
end Go.Proofs.Ytjcnmcbapjkmhaa.Pv
