/- Plain: the reference's text of a board and the program's are the same. For all boards of digits. -/
import Derived.Test.YtmfocekebenniaaDoorOd
import Derived.Test.YtmfocekebenniaaDoorPh
namespace Go.Proofs.YtmfocekebenniaaDoor.Ob
open Go.RowKit Go.Proofs.YtmfocekebenniaaDoor.Q Go.Proofs.YtmfocekebenniaaDoor.Given Go.Proofs.YtmfocekebenniaaDoor.Pz Go.Proofs.YtmfocekebenniaaDoor.Pm Go.Proofs.YtmfocekebenniaaDoor.Ph Go.Proofs.YtmfocekebenniaaDoorW.PrintWords Go.Proofs.YtmfocekebenniaaDoorW.PrintLast
set_option linter.unusedVariables false
set_option linter.unusedSimpArgs false
def dg (x : Int) : UInt8 := UInt8.ofNat ((wrap64 (48 + x)) % 256).toNat
def B (l : List UInt8) : ByteArray := ⟨l.toArray⟩
theorem B_append (a b : List UInt8) : B a ++ B b = B (a ++ b) := by
  apply ByteArray.ext
  rw [ByteArray.data_append]
  simp [B]
theorem B_size (a : List UInt8) : (B a).size = a.length := by simp [B, ByteArray.size]
theorem rowT_B (r : List Int) : rowT r = B (r.map dg) := by
  unfold rowT strOfNums B dg
  rw [List.map_map]
  rfl
def specL (l : List Int) (C : Nat) : Nat → List UInt8
  | 0 => []
  | n + 1 => specL l C n ++ (if 0 < n ∧ n % C = 0 then [47] else []) ++ [dg (rd l (n : Nat))]
theorem specL_len (l : List Int) (C n : Nat) : (specL l C n).length ≤ 2 * n := by
  induction n with
  | zero => exact Nat.le_refl _
  | succ n ih =>
    rw [specL, List.length_append, List.length_append, List.length_singleton]
    split
    · rw [List.length_singleton]; omega
    · rw [List.length_nil]; omega
def rowL (l : List Int) (C j : Nat) : List UInt8 := ((l.drop (j * C)).take C).map dg
theorem join_snoc (xs : List (List UInt8)) (y sep : List UInt8) : Lib.join (xs ++ [y]) sep = Lib.join xs sep ++ (if xs = [] then [] else sep) ++ y := by
  match xs with
  | [] => simp [Lib.join_one, Lib.join_nil]
  | x :: r =>
    rw [List.cons_append, Lib.join_cons, Lib.join_cons, if_neg (by simp)]
    unfold Lib.joinTail
    simp [List.append_assoc]
theorem specL_block (l : List Int) (C : Nat) (hC : 1 ≤ C) (m : Nat) (t : Nat) (ht : t ≤ C) (hl : m * C + t ≤ l.length) : specL l C (m * C + t) = specL l C (m * C) ++ (if t = 0 then [] else (if m = 0 then [] else [47]) ++ ((l.drop (m * C)).take t).map dg) := by
  induction t with
  | zero => simp
  | succ t ih =>
    have h1 := ih (by omega) (by omega)
    have hlt : m * C + t < l.length := by omega
    have hdt : t < (l.drop (m * C)).length := by rw [List.length_drop]; omega
    have he : rd l ((m * C + t : Nat) : Int) = (l.drop (m * C))[t] := by
      unfold rd
      rw [Int.toNat_natCast, List.getD_eq_getElem?_getD, List.getElem?_eq_getElem hlt, List.getElem_drop]
      rfl
    have hmod : (m * C + t) % C = t := by rw [Nat.add_comm, Nat.add_mul_mod_self_right, Nat.mod_eq_of_lt (by omega)]
    rw [← Nat.add_assoc, specL, h1, hmod, he, if_neg (Nat.succ_ne_zero t), List.take_succ_eq_append_getElem hdt, List.map_append, List.map_singleton]
    by_cases ht0 : t = 0
    · subst ht0
      by_cases hm0 : m = 0
      · subst hm0
        simp
      · have : 0 < m * C := Nat.mul_pos (by omega) hC
        rw [if_pos rfl, if_pos (by omega), if_neg hm0]
        simp
    · rw [if_neg ht0, if_neg (show ¬ (0 < m * C + t ∧ t = 0) from fun h => ht0 h.2)]
      simp [List.append_assoc]
theorem specL_join (l : List Int) (C : Nat) (hC : 1 ≤ C) (m : Nat) (hl : m * C ≤ l.length) : specL l C (m * C) = Lib.join ((List.range m).map (rowL l C)) [47] := by
  induction m with
  | zero => rw [Nat.zero_mul]; rfl
  | succ m ih =>
    rw [Nat.succ_mul] at hl ⊢
    have h1 := ih (by omega)
    rw [specL_block l C hC m C (Nat.le_refl _) hl, h1, List.range_succ, List.map_append, List.map_singleton, join_snoc, if_neg (by omega)]
    unfold rowL
    by_cases hm0 : m = 0
    · subst hm0; simp
    · rw [if_neg hm0, if_neg (by simpa using hm0)]
      simp [List.append_assoc]
/-- The program's text of a board. -/
theorem boardText_f (l : List Int) (C N : Nat) (hC : 1 ≤ C) (hC2 : C ≤ 30) (hl : l.length = N * C) (h0 : 0 < l.length) (h30 : l.length ≤ 1000) :
    impl_boardText.f (C : Int) l = some (B (specL l C l.length)) := by
  unfold impl_boardText.f
  rw [Int.toNat_natCast, if_pos ⟨by omega, by omega, h0, h30, by rw [hl]; exact Nat.mul_mod_left _ _⟩]
  have hdiv : l.length / C = N := by rw [hl]; exact Nat.mul_div_cancel _ hC
  rw [hdiv]
  have hmap : (joinT l C N).map (·.data.toList) = (List.range N).map (rowL l C) := by
    unfold joinT
    rw [List.map_map]
    apply List.map_congr_left
    intro j _
    show (rowT ((l.drop (j * C)).take C)).data.toList = rowL l C j
    rw [rowT_B]
    simp [B, rowL]
  rw [hmap, ← specL_join l C hC N (by omega), ← hl]
  rfl
end Go.Proofs.YtmfocekebenniaaDoor.Ob
