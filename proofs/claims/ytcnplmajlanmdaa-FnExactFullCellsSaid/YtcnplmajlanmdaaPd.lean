/- Plain facts on full cells and their signs: the program's and the reference's answers are the same, for labels in 0, 1, 2. -/
import Derived.Test.YtcnplmajlanmdaaPc
import Derived.Test.YtcnplmajlanmdaaQx2
import Derived.Test.YtcnplmajlanmdaaQx1
import Derived.Test.YtcnplmajlanmdaaQx7
import Derived.Test.YtcnplmajlanmdaaQx3
import Derived.Test.YtcnplmajlanmdaaQx5
import Derived.Test.YtcnplmajlanmdaaQx8
namespace Go.Proofs.Ytcnplmajlanmdaa.Pd
open Go.RowKit Go.Proofs.Ytcnplmajlanmdaa.Q Go.Proofs.Ytcnplmajlanmdaa.Given Go.Proofs.Ytcnplmajlanmdaa.Pz Go.Proofs.Ytcnplmajlanmdaa.Pm Go.Proofs.Ytcnplmajlanmdaa.Pn Go.Proofs.Ytcnplmajlanmdaa.Pc Go.Proofs.YtcnplmajlanmdaaW.PrintWords Go.Proofs.YtcnplmajlanmdaaW.PrintLast

theorem r0 (a b c : Int) : rd [a, b, c] 0 = a := rfl
theorem r1 (a b c : Int) : rd [a, b, c] 1 = b := rfl
theorem r2 (a b c : Int) : rd [a, b, c] 2 = c := rfl
theorem q0 (a b : Int) : rd [a, b] 0 = a := rfl
theorem q1 (a b : Int) : rd [a, b] 1 = b := rfl
theorem s0 (a : Int) : rd [a] 0 = a := rfl

theorem isFull_at {n : Int} {l : List Int} {cs : List (List Int)} {bd : List Int} {c i j m : Int} (c0 : 0 ≤ c) (c1 : c < (cs.length : Int)) (hc : rd_L2 cs c = [i, j, m])
    (hi : 0 ≤ i) (hj : 0 ≤ j) (hm : 0 ≤ m) (ki : i < (l.length : Int)) (kj : j < (l.length : Int)) (km : m < (l.length : Int)) (li : Lab (rd l i)) (lj : Lab (rd l j)) (lm : Lab (rd l m)) :
    impl_house_isFull.f n l cs bd c = some (ful (rd l i) (rd l j) (rd l m)) := by
  unfold Lab at li lj lm
  unfold impl_house_isFull.f
  rw [if_pos c0, if_pos c1, hc]
  rw [r0, r1, r2]
  simp only [List.length_cons, List.length_nil]
  rw [if_pos (by omega), if_pos hi, if_pos ki, if_pos li.1, if_pos (by omega), if_pos hj, if_pos kj, if_pos lj.1, if_pos (by omega), if_pos hm, if_pos km, if_pos lm.1]
  rfl

theorem doFull_at {l : List Int} {i j m : Int} (hi : 0 ≤ i) (hj : 0 ≤ j) (hm : 0 ≤ m) (ki : i < (l.length : Int)) (kj : j < (l.length : Int)) (km : m < (l.length : Int)) (li : Lab (rd l i)) (lj : Lab (rd l j)) (lm : Lab (rd l m)) (k : Nat) (hk : 10 ≤ k) :
    spec_doFull.f k l [i, j, m] = some (ful (rd l i) (rd l j) (rd l m)) := by
  obtain ⟨k, rfl⟩ : ∃ p, k = p + 4 := ⟨k - 4, by omega⟩
  have li' := li; have lj' := lj; have lm' := lm
  unfold Lab at li' lj' lm'
  have w1 : wrap64 (0 + 1) = 1 := by decide +kernel
  have w2 : wrap64 (1 + 1) = 2 := by decide +kernel
  have w3 : wrap64 (2 + 1) = 3 := by decide +kernel
  unfold spec_doFull.f
  rw [spec_doFull.l0]
  simp only [List.length_cons, List.length_nil]
  rw [if_pos (by omega), if_pos (by omega), if_pos (by omega), r0, if_pos hi, if_pos ki, if_pos li'.1, w1, spec_doFull.l0]
  rw [if_pos (by omega), if_pos (by omega), if_pos (by simp), r1, if_pos hj, if_pos kj, if_pos lj'.1, w2, spec_doFull.l0]
  rw [if_pos (by omega), if_pos (by omega), if_pos (by simp), r2, if_pos hm, if_pos km, if_pos lm'.1, w3, spec_doFull.l0]
  rw [if_neg (by omega)]
  generalize rd l i = a at li ⊢
  generalize rd l j = b at lj ⊢
  generalize rd l m = d at lm ⊢
  obtain rfl | rfl | rfl := lab_cases li <;> obtain rfl | rfl | rfl := lab_cases lj <;> obtain rfl | rfl | rfl := lab_cases lm <;> decide +kernel

/-- The sign of a cell with these labels. -/
def sgnF (a b : Int) (u : Bool) : Int := if (((Int.tmod (wrap64 ((wrap64 (b - a)) + 3)) 3) == 1) == u) = true then 1 else -1
theorem sign_at {n : Int} {l : List Int} {cs : List (List Int)} {bd : List Int} {c i j m : Int} {u : Bool} (c0 : 0 ≤ c) (c1 : c < (cs.length : Int)) (hc : rd_L2 cs c = [i, j, m])
    (hi : 0 ≤ i) (hj : 0 ≤ j) (ki : i < (l.length : Int)) (kj : j < (l.length : Int)) (k : Nat) (hu : impl_isUp.f k n [i, j, m] = some u) :
    impl_house_sign.f k n l cs bd c = some (sgnF (rd l i) (rd l j) u) := by
  unfold impl_house_sign.f
  rw [if_pos c0, if_pos c1, hc]
  rw [r0, r1]
  simp only [List.length_cons, List.length_nil]
  rw [if_pos (by omega), if_pos hj, if_pos kj, if_pos (by omega), if_pos hi, if_pos ki, hu]
  unfold sgnF
  simp only [Option.bind_some]
  split <;> rfl

def sg (x : Int) (a b : Int) : Int := if a > b then wrap64 (-x) else x
theorem l1_in {n : Int} {l c : List Int} {x7 x9 : Int} {y : List Int} {x13 x14 : Int} {z : List Int} {t : Int} (ht : 0 ≤ t) (h1 : t < (z.length : Int)) (h2 : 0 ≤ x9) (h3 : x9 < (l.length : Int)) (h4 : 0 ≤ rd z t) (h5 : rd z t < (l.length : Int)) (k : Nat) :
    spec_doSign.l1 (k + 1) n l c x7 x9 y x13 x14 z (z.length : Int) t = spec_doSign.l1 k n l c (sg x7 (rd l x9) (rd l (rd z t))) x9 y x13 x14 z (z.length : Int) (wrap64 (t + 1)) := by
  rw [spec_doSign.l1, if_pos h1, if_pos ht, if_pos h1, if_pos h2, if_pos h3, if_pos h4, if_pos h5]
  unfold sg
  split <;> rfl
theorem l1_out {n : Int} {l c : List Int} {x7 x9 : Int} {y : List Int} {x13 x14 : Int} {z : List Int} {t : Int} (h1 : ¬ t < (z.length : Int)) (k : Nat) :
    spec_doSign.l1 (k + 1) n l c x7 x9 y x13 x14 z (z.length : Int) t = spec_doSign.l0 k n l c x7 y x13 (wrap64 (x14 + 1)) := by
  rw [spec_doSign.l1, if_neg h1]
theorem doSign_at {n : Int} {l : List Int} {i j m : Int} {u : Bool} (hi : 0 ≤ i) (hj : 0 ≤ j) (hm : 0 ≤ m) (ki : i < (l.length : Int)) (kj : j < (l.length : Int)) (km : m < (l.length : Int)) (li : Lab (rd l i)) (lj : Lab (rd l j)) (lm : Lab (rd l m)) (hf : ful (rd l i) (rd l j) (rd l m) = true)
    (hu : ∀ k, 20000 ≤ k → spec_meUp.f k n [i, j, m] = some u) (k : Nat) (hk : 20010 ≤ k) :
    spec_doSign.f k n l [i, j, m] = some (sgnF (rd l i) (rd l j) u) := by
  obtain ⟨k, rfl⟩ : ∃ p, k = p + 10 := ⟨k - 10, by omega⟩
  have w1 : wrap64 (0 + 1) = 1 := by decide +kernel
  have w2 : wrap64 (1 + 1) = 2 := by decide +kernel
  have w3 : wrap64 (2 + 1) = 3 := by decide +kernel
  have d1 : ([i, j, m] : List Int).drop ((1 : Int).toNat) = [j, m] := rfl
  have d2 : ([i, j, m] : List Int).drop ((2 : Int).toNat) = [m] := rfl
  have d3 : ([i, j, m] : List Int).drop ((3 : Int).toNat) = [] := rfl
  unfold spec_doSign.f
  rw [spec_doSign.l0, if_pos (by simp), if_pos (by omega), if_pos (by simp), w1, if_pos (by omega), if_pos (by simp), r0, d1]
  rw [l1_in (by omega) (by simp) hi ki (by rw [q0]; exact hj) (by rw [q0]; exact kj), q0, w1, l1_in (by omega) (by simp) hi ki (by rw [q1]; exact hm) (by rw [q1]; exact km), q1, w2, l1_out (by simp), w1]
  rw [spec_doSign.l0, if_pos (by simp), if_pos (by omega), if_pos (by simp), w2, if_pos (by omega), if_pos (by simp), r1, d2]
  rw [l1_in (by omega) (by simp) hj kj (by rw [s0]; exact hm) (by rw [s0]; exact km), s0, w1, l1_out (by simp), w2]
  rw [spec_doSign.l0, if_pos (by simp), if_pos (by omega), if_pos (by simp), w3, if_pos (by omega), if_pos (by simp), r2, d3, l1_out (by simp), w3]
  rw [spec_doSign.l0, if_neg (by simp), hu k (by omega)]
  simp only [Option.bind_some]
  generalize rd l i = a at li hf ⊢
  generalize rd l j = b at lj hf ⊢
  generalize rd l m = d at lm hf ⊢
  revert hf
  obtain rfl | rfl | rfl := lab_cases li <;> obtain rfl | rfl | rfl := lab_cases lj <;> obtain rfl | rfl | rfl := lab_cases lm <;> cases u <;> decide +kernel
end Go.Proofs.Ytcnplmajlanmdaa.Pd
