/- Plain: lists of pieces joined by a byte that stands in none of them: the pieces are told by what is joined. -/
import Derived.Lib.Join
import Derived.Lib.Split
import Derived.Lib.SplitLaws
import Derived.Lib.IndexLaws
import Derived.Lib.IndexBytes
namespace Go.Proofs.YtmfocekebenniaaDoor.On
open Go
set_option linter.unusedVariables false
set_option linter.unusedSimpArgs false
theorem join_two (x y : List UInt8) (r : List (List UInt8)) (c : UInt8) : Lib.join (x :: y :: r) [c] = x ++ c :: Lib.join (y :: r) [c] := by
  rw [Lib.join_cons, Lib.join_cons]
  simp [Lib.joinTail, List.append_assoc]
theorem cut_inj {c : UInt8} : ∀ (x y A B : List UInt8), c ∉ x → c ∉ y → x ++ c :: A = y ++ c :: B → x = y ∧ A = B
  | [], [], A, B, _, _, h => by injection h with _ h; exact ⟨rfl, h⟩
  | [], b :: y, A, B, _, hy, h => by injection h with h _; exact absurd (by rw [h]; exact List.mem_cons_self) hy
  | a :: x, [], A, B, hx, _, h => by injection h with h _; exact absurd (by rw [h]; exact List.mem_cons_self) hx
  | a :: x, b :: y, A, B, hx, hy, h => by
    injection h with h1 h2
    obtain ⟨e1, e2⟩ := cut_inj x y A B (fun hm => hx (List.mem_cons_of_mem _ hm)) (fun hm => hy (List.mem_cons_of_mem _ hm)) h2
    exact ⟨by rw [h1, e1], e2⟩
theorem join_inj {c : UInt8} : ∀ (P Q : List (List UInt8)), P ≠ [] → Q ≠ [] → (∀ p ∈ P, c ∉ p) → (∀ q ∈ Q, c ∉ q) → Lib.join P [c] = Lib.join Q [c] → P = Q
  | [], _, h, _, _, _, _ => absurd rfl h
  | _, [], _, h, _, _, _ => absurd rfl h
  | [x], [y], _, _, _, _, h => by rw [Lib.join_one, Lib.join_one] at h; rw [h]
  | [x], y :: y' :: r, _, _, hP, _, h => by
    rw [Lib.join_one, join_two] at h
    exact absurd (by rw [h]; simp) (hP x (by simp))
  | x :: x' :: r, [y], _, _, _, hQ, h => by
    rw [Lib.join_one, join_two] at h
    exact absurd (by rw [← h]; simp) (hQ y (by simp))
  | x :: x' :: r, y :: y' :: r', _, _, hP, hQ, h => by
    rw [join_two, join_two] at h
    obtain ⟨e1, e2⟩ := cut_inj x y _ _ (hP x (by simp)) (hQ y (by simp)) h
    rw [e1, join_inj (x' :: r) (y' :: r') (by simp) (by simp) (fun p hp => hP p (List.mem_cons_of_mem _ hp)) (fun q hq => hQ q (List.mem_cons_of_mem _ hq)) e2]
/-- The pieces of a text at a byte. -/
def Pieces (c : UInt8) (s : List UInt8) (P : List (List UInt8)) : Prop := P ≠ [] ∧ (∀ p ∈ P, c ∉ p) ∧ Lib.join P [c] = s
theorem Pieces.unique {c : UInt8} {s : List UInt8} {P Q : List (List UInt8)} (h : Pieces c s P) (k : Pieces c s Q) : P = Q :=
  join_inj P Q h.1 k.1 h.2.1 k.2.1 (h.2.2.trans k.2.2.symm)
theorem Pieces.one {c : UInt8} {s : List UInt8} (h : c ∉ s) : Pieces c s [s] := ⟨by simp, fun p hp => by rw [List.mem_singleton] at hp; rw [hp]; exact h, Lib.join_one _ _⟩
theorem Pieces.cons {c : UInt8} {x s : List UInt8} {P : List (List UInt8)} (hx : c ∉ x) (h : Pieces c s P) : Pieces c (x ++ c :: s) (x :: P) := by
  obtain ⟨h1, h2, h3⟩ := h
  match P, h1, h2, h3 with
  | y :: r, _, h2, h3 =>
    refine ⟨by simp, fun p hp => ?_, by rw [join_two, h3]⟩
    rcases List.mem_cons.mp hp with rfl | hp
    · exact hx
    · exact h2 p hp
theorem splitB_pieces (c : UInt8) : ∀ (k : Nat) (s : ByteArray), Lib.countB s ⟨#[c]⟩ = k → Pieces c s.data.toList ((Lib.splitB ⟨#[c]⟩ 0 k s).map (·.data.toList)) := by
  intro k
  have hone : ∀ s : ByteArray, Lib.indexB s ⟨#[c]⟩ = Lib.indexByte s.data.toList c := fun s => Lib.index_one s.data.toList c
  have hcnt : ∀ s : ByteArray, Lib.countB s ⟨#[c]⟩ = s.data.toList.count c := fun s => Lib.count_one c s.data.toList
  induction k with
  | zero =>
    intro s hs
    rw [Lib.splitB_zero]
    rw [hcnt] at hs
    exact Pieces.one (List.count_eq_zero.mp hs)
  | succ k ih =>
    intro s hs
    rw [hcnt] at hs
    have hge := Lib.indexByte_ge s.data.toList c
    have hne : Lib.indexByte s.data.toList c ≠ -1 := by
      intro h
      have h2 := Lib.indexByte_none h
      have h3 : s.data.toList.count c = 0 := List.count_eq_zero.mpr (fun hm => by
        obtain ⟨j, hj, he⟩ := List.mem_iff_getElem.mp hm
        exact h2 j (by rw [List.getElem?_eq_getElem hj, he]))
      omega
    obtain ⟨i, hi⟩ := Int.eq_ofNat_of_zero_le (show 0 ≤ Lib.indexByte s.data.toList c by omega)
    obtain ⟨h4, h5⟩ := Lib.indexByte_some hi
    rw [Lib.splitB_hit _ _ _ _ i ((hone s).trans hi)]
    obtain ⟨hil, hie⟩ := List.getElem?_eq_some_iff.mp h4
    have hdec : s.data.toList = s.data.toList.take i ++ c :: s.data.toList.drop (i + 1) := by
      have h7 := List.drop_eq_getElem_cons hil
      rw [hie] at h7
      rw [← h7]
      exact (List.take_append_drop i _).symm
    have hfree : c ∉ s.data.toList.take i := by
      intro hm
      obtain ⟨j, hj, he⟩ := List.mem_iff_getElem.mp hm
      rw [List.length_take] at hj
      refine h5 j (by omega) ?_
      rw [List.getElem_take] at he
      rw [List.getElem?_eq_getElem (by omega), he]
    have e1 : (s.extract 0 (i + 0)).data.toList = s.data.toList.take i := Lib.extract_from_zero s i
    have e2 : (s.extract (i + (⟨#[c]⟩ : ByteArray).size) s.size).data.toList = s.data.toList.drop (i + 1) := by
      show (s.extract (i + 1) s.size).data.toList = _
      rw [ByteArray.data_extract, Array.toList_extract, List.extract_eq_take_drop]
      exact List.take_of_length_le (by rw [List.length_drop]; show s.data.toList.length - (i + 1) ≤ s.data.size - (i + 1); rw [Array.length_toList]; exact Nat.le_refl _)
    have hcr : Lib.countB (s.extract (i + (⟨#[c]⟩ : ByteArray).size) s.size) ⟨#[c]⟩ = k := by
      rw [hcnt, e2]
      rw [hdec, List.count_append, List.count_cons_self, List.count_eq_zero.mpr hfree] at hs
      omega
    have h8 := Pieces.cons hfree (ih _ hcr)
    rw [e2] at h8
    rw [List.map_cons, e1]
    conv => arg 2; rw [hdec]
    exact h8
end Go.Proofs.YtmfocekebenniaaDoor.On
