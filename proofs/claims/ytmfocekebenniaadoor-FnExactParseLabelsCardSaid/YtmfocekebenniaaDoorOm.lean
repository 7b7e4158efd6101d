/- Plain: the reference's text of labels and the program's are the same. For all sides 1 to 8 and lists of digits. -/
import Derived.Test.YtmfocekebenniaaDoorOe
import Derived.Test.YtmfocekebenniaaDoorPm
import Derived.Test.YtmfocekebenniaaDoorQx2
namespace Go.Proofs.YtmfocekebenniaaDoor.Om
open Go.RowKit Go.Proofs.YtmfocekebenniaaDoor.Q Go.Proofs.YtmfocekebenniaaDoor.Given Go.Proofs.YtmfocekebenniaaDoor.Pz Go.Proofs.YtmfocekebenniaaDoor.Pm Go.Proofs.YtmfocekebenniaaDoorW.PrintWords Go.Proofs.YtmfocekebenniaaDoorW.PrintLast
set_option linter.unusedVariables false
set_option linter.unusedSimpArgs false
def dg (x : Int) : UInt8 := UInt8.ofNat ((wrap64 (48 + x)) % 256).toNat
def B (l : List UInt8) : ByteArray := ⟨l.toArray⟩
theorem B_append (a b : List UInt8) : B a ++ B b = B (a ++ b) := by
  apply ByteArray.ext
  rw [ByteArray.data_append]
  simp [B]
theorem B_size (a : List UInt8) : (B a).size = a.length := by simp [B, ByteArray.size]
theorem rowT_B (r : List Int) : rowT r = B (r.map dg) := by
  unfold rowT strOfNums B dg
  rw [List.map_map]
  rfl
theorem num_f (x : Int) (h : 0 ≤ x ∧ x ≤ 9) (k : Nat) (hk : 1 ≤ k) : spec_l1Num.f k x = some (B [dg x]) := by
  obtain ⟨k, rfl⟩ : ∃ m, k = m + 1 := ⟨k - 1, by omega⟩
  rw [spec_l1Num.f, if_pos (by omega)]
  rfl
theorem digB_B (n : Nat) (h : n ≤ 9) : digB n = B [dg (n : Int)] := by
  unfold digB B dg
  have : (wrap64 (48 + (n : Int)) % 256).toNat = 48 + n := by
    rw [show wrap64 (48 + (n : Int)) = 48 + n by unfold wrap64; omega]; omega
  rw [this]
theorem join_snoc (xs : List (List UInt8)) (y sep : List UInt8) : Lib.join (xs ++ [y]) sep = Lib.join xs sep ++ (if xs = [] then [] else sep) ++ y := by
  match xs with
  | [] => simp [Lib.join_one, Lib.join_nil]
  | x :: r =>
    rw [List.cons_append, Lib.join_cons, Lib.join_cons, if_neg (by simp)]
    unfold Lib.joinTail
    simp [List.append_assoc]
def rowM (l : List Int) (j : Nat) : List UInt8 := ((l.drop (tri j)).take (j + 1)).map dg
def specT (l : List Int) (j : Nat) : List UInt8 := Lib.join ((List.range j).map (rowM l)) [47]
theorem specT_succ (l : List Int) (j : Nat) : specT l (j + 1) = specT l j ++ (if j = 0 then [] else [47]) ++ rowM l j := by
  unfold specT
  rw [List.range_succ, List.map_append, List.map_singleton, join_snoc]
  by_cases h : j = 0
  · subst h; rfl
  · rw [if_neg h, if_neg (by simpa using h)]
theorem specT_len (l : List Int) (j : Nat) (hj : j ≤ 9) : (specT l j).length ≤ 20 * j := by
  induction j with
  | zero => exact Nat.le_refl _
  | succ j ih =>
    have h1 := ih (by omega)
    have h2 : (rowM l j).length ≤ j + 1 := by unfold rowM; rw [List.length_map, List.length_take]; omega
    rw [specT_succ, List.length_append, List.length_append]
    split
    · rw [List.length_nil]; omega
    · rw [List.length_singleton]; omega
theorem row_run (l : List Int) (n : Int) (hl : l.length ≤ 1000) (hd : ∀ j : Nat, j < l.length → 0 ≤ rd l (j : Nat) ∧ rd l (j : Nat) ≤ 9) (P : List UInt8) (hP : P.length ≤ 1000) (j : Nat) (hj : tri (j + 1) ≤ l.length) (hj8 : j ≤ 100) (res : ByteArray) (Bd : Nat)
    (hres : ∀ k, Bd ≤ k → spec_meText.l0 k n l (B (P ++ rowM l j)) ((tri (j + 1) : Nat) : Int) ((j + 1 : Nat) : Int) = some res) (d : Nat) :
    ∀ (t k : Nat), t + d = j + 1 → Bd + d + 2 ≤ k → spec_meText.l1 k n l (B (P ++ ((l.drop (tri j)).take t).map dg)) ((tri j + t : Nat) : Int) (j : Int) (t : Int) = some res := by
  induction d with
  | zero =>
    intro t k ht hk
    obtain ⟨k, rfl⟩ : ∃ m, k = m + 1 := ⟨k - 1, by omega⟩
    obtain rfl : t = j + 1 := by omega
    rw [spec_meText.l1, if_neg (by omega), show wrap64 ((j : Int) + 1) = ((j + 1 : Nat) : Int) by unfold wrap64; omega]
    exact hres k (by omega)
  | succ d ih =>
    intro t k ht hk
    obtain ⟨k, rfl⟩ : ∃ m, k = m + 1 := ⟨k - 1, by omega⟩
    have htl : tri j + t < l.length := by
      have : tri (j + 1) = tri j + (j + 1) := rfl
      omega
    have hdt : t < (l.drop (tri j)).length := by rw [List.length_drop]; omega
    have he : rd l ((tri j + t : Nat) : Int) = (l.drop (tri j))[t] := by
      unfold rd
      rw [Int.toNat_natCast, List.getD_eq_getElem?_getD, List.getElem?_eq_getElem htl, List.getElem_drop]
      rfl
    have h1 := ih (t + 1) k (by omega) (by omega)
    rw [List.take_succ_eq_append_getElem hdt, List.map_append, List.map_singleton, ← List.append_assoc] at h1
    have hs : (((l.drop (tri j)).take t).map dg).length ≤ 1000 := by rw [List.length_map, List.length_take]; omega
    rw [spec_meText.l1, if_pos (by omega), if_pos (by omega), if_pos (by omega), num_f _ (hd (tri j + t) htl) k (by omega), he, show wrap64 (((tri j + t : Nat) : Int) + 1) = ((tri j + (t + 1) : Nat) : Int) by unfold wrap64; omega, show wrap64 ((t : Int) + 1) = ((t + 1 : Nat) : Int) by unfold wrap64; omega]
    simp only [Option.bind_some, B_append, B_size]
    rw [if_pos (by rw [List.length_append, List.length_singleton]; omega)]
    exact h1
theorem rows_run (l : List Int) (n : Nat) (hn : n ≤ 8) (hl : l.length = tri (n + 1)) (hd : ∀ j : Nat, j < l.length → 0 ≤ rd l (j : Nat) ∧ rd l (j : Nat) ≤ 9) (H : List UInt8) (hH : H.length ≤ 10) (d : Nat) :
    ∀ (j k : Nat), j + d = n + 1 → 20 * d + 2 ≤ k → spec_meText.l0 k (n : Int) l (B (H ++ specT l j)) ((tri j : Nat) : Int) (j : Int) = some (B (H ++ specT l (n + 1))) := by
  have hl1 : l.length ≤ 1000 := by
    rw [hl]
    exact Nat.le_trans (tri_mono (a := n + 1) (b := 9) (by omega)) (by decide)
  induction d with
  | zero =>
    intro j k hj hk
    obtain ⟨k, rfl⟩ : ∃ m, k = m + 1 := ⟨k - 1, by omega⟩
    obtain rfl : j = n + 1 := by omega
    rw [spec_meText.l0, if_neg (by omega)]
  | succ d ih =>
    intro j k hj hk
    obtain ⟨k, rfl⟩ : ∃ m, k = m + 2 := ⟨k - 2, by omega⟩
    have hsl := specT_len l j (by omega)
    have hsx : (H ++ specT l j).length ≤ 300 := by rw [List.length_append]; omega
    have htj : tri (j + 1) ≤ l.length := by rw [hl]; exact tri_mono (by omega)
    have h1 := fun k hk => ih (j + 1) k (by omega) hk
    rw [spec_meText.l0, if_pos (by omega)]
    have e47 : (⟨#[47]⟩ : ByteArray) = B [47] := rfl
    by_cases hj0 : j = 0
    · subst hj0
      have hx : H ++ specT l (0 + 1) = (H ++ specT l 0) ++ rowM l 0 := by rw [specT_succ, if_pos rfl, List.append_nil, List.append_assoc]
      rw [hx] at h1
      have h2 := row_run l n hl1 hd (H ++ specT l 0) (by omega) 0 htj (by omega) _ (20 * d + 2) (fun k hk => h1 k hk) 1 0 k (by omega) (by omega)
      rw [List.take_zero, List.map_nil, List.append_nil] at h2
      rw [if_neg (by omega), spec_meText.j1]
      exact h2
    · have hx : H ++ specT l (j + 1) = (H ++ specT l j ++ [47]) ++ rowM l j := by rw [specT_succ, if_neg hj0]; simp [List.append_assoc]
      rw [hx] at h1
      have h2 := row_run l n hl1 hd (H ++ specT l j ++ [47]) (by rw [List.length_append, List.length_singleton]; omega) j htj (by omega) _ (20 * d + 2) (fun k hk => h1 k hk) (j + 1) 0 k (by omega) (by omega)
      rw [List.take_zero, List.map_nil, List.append_nil] at h2
      rw [if_pos (by omega), e47, B_append, B_size, if_pos (by omega), spec_meText.j1]
      exact h2
/-- The two texts of labels. -/
theorem text_same (n : Nat) (l : List Int) (h1 : 1 ≤ n) (h8 : n ≤ 8) (hl : l.length = tri (n + 1)) (hd : ∀ j : Nat, j < l.length → 0 ≤ rd l (j : Nat) ∧ rd l (j : Nat) ≤ 9) :
    ∃ r, (∀ k, 1000 ≤ k → spec_meText.f k (n : Int) l = some r) ∧ impl_labelsText.f (n : Int) l = some r := by
  refine ⟨B ([dg (n : Int), 58] ++ specT l (n + 1)), fun k hk => ?_, ?_⟩
  · have h2 := rows_run l n h8 hl hd [dg (n : Int), 58] (by simp) (n + 1) 0 k (by omega) (by omega)
    have e58 : (⟨#[58]⟩ : ByteArray) = B [58] := rfl
    unfold spec_meText.f
    rw [num_f _ (by omega) k (by omega), Option.bind_some, e58, B_size, B_append, if_pos (by simp)]
    exact h2
  · unfold impl_labelsText.f
    rw [Int.toNat_natCast, if_pos ⟨by omega, by omega, hl⟩, digB_B n (by omega)]
    have e58 : (⟨#[58]⟩ : ByteArray) = B [58] := rfl
    have hj : joinR l (n + 1) = B (specT l (n + 1)) := by
      unfold joinR specT triRows
      rw [List.map_map]
      have : (List.range (n + 1)).map ((fun x : ByteArray => x.data.toList) ∘ triRow l) = (List.range (n + 1)).map (rowM l) := by
        apply List.map_congr_left
        intro j _
        show (triRow l j).data.toList = rowM l j
        unfold triRow
        rw [rowT_B]
        simp [B, rowM]
      rw [this]
      rfl
    rw [hj, e58, B_append, B_append]
    rfl
theorem labels_f (a : Int) (l : List Int) (hm : l.length ≤ 1099511627776) : ∃ b, (∀ k, l.length < k → spec_meLabels.f k a l = some b) ∧ impl_areLabels.f a l = some b ∧ (b = true → ∃ n : Nat, a = n ∧ 1 ≤ n ∧ n ≤ 8 ∧ l.length = tri (n + 1) ∧ ∀ j : Nat, j < l.length → 0 ≤ rd l (j : Nat) ∧ rd l (j : Nat) ≤ 9) := by
  obtain ⟨b, _, h2, _⟩ := meLabels_f a l hm (l.length + 1) (by omega)
  refine ⟨b, fun k hk => ?_, h2, fun hb => ?_⟩
  · obtain ⟨b', e1, e2, _⟩ := meLabels_f a l hm k hk
    rw [h2] at e2
    injection e2 with e2
    rw [e2]; exact e1
  · subst hb
    unfold impl_areLabels.f impl_many.f at h2
    rw [isSide_f] at h2
    simp only [Option.bind_some] at h2
    injection h2 with h2
    rw [Bool.and_eq_true, Bool.and_eq_true] at h2
    obtain ⟨e1, e2, e3⟩ := h2
    have e1' : 1 ≤ a ∧ a ≤ 8 := by unfold inRange at e1; simpa using e1
    obtain ⟨n, rfl⟩ := Int.eq_ofNat_of_zero_le (show 0 ≤ a by omega)
    have e2' := eq_of_beq e2
    refine ⟨n, rfl, by omega, by omega, ?_, fun j hj => ?_⟩
    · have hn : n = 1 ∨ n = 2 ∨ n = 3 ∨ n = 4 ∨ n = 5 ∨ n = 6 ∨ n = 7 ∨ n = 8 := by omega
      rcases hn with rfl | rfl | rfl | rfl | rfl | rfl | rfl | rfl
      all_goals exact Int.ofNat_inj.mp (e2'.trans (by decide +kernel))
    · have he : rd l (j : Nat) = l[j] := by unfold rd; rw [List.getD_eq_getElem?_getD, Int.toNat_natCast, List.getElem?_eq_getElem hj]; rfl
      have h5 := List.all_eq_true.mp e3 _ (List.getElem_mem hj)
      unfold inRange at h5
      simp only [Bool.and_eq_true, decide_eq_true_eq] at h5
      rw [he]; omega
end Go.Proofs.YtmfocekebenniaaDoor.Om
