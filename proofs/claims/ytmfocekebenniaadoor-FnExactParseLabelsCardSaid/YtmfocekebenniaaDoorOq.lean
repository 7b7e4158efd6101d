/- Plain: the reference's pieces of a text, its digits, and the program's digits. For all texts of at most 2^21 bytes. -/
import Derived.Test.YtmfocekebenniaaDoorOn
import Derived.Test.YtmfocekebenniaaDoorQx2
import Derived.Test.YtmfocekebenniaaDoorQx3
import Derived.Test.YtmfocekebenniaaDoorQx4
import Derived.Test.YtmfocekebenniaaDoorPm
namespace Go.Proofs.YtmfocekebenniaaDoor.Oq
open Go.RowKit Go.Proofs.YtmfocekebenniaaDoor.Q Go.Proofs.YtmfocekebenniaaDoor.Given Go.Proofs.YtmfocekebenniaaDoor.Pz Go.Proofs.YtmfocekebenniaaDoor.Pm Go.Proofs.YtmfocekebenniaaDoor.On Go.Proofs.YtmfocekebenniaaDoorW.PrintWords Go.Proofs.YtmfocekebenniaaDoorW.PrintLast
set_option linter.unusedVariables false
set_option linter.unusedSimpArgs false
theorem size_data (s : ByteArray) : s.data.toList.length = s.size := by rw [Array.length_toList]; rfl
theorem bt_get (s : ByteArray) (i : Nat) (h : i < s.size) : bt s (i : Nat) = ((s.data.toList[i]'(by rw [size_data]; exact h)).toNat : Int) := by
  unfold bt
  rw [dif_pos (by rw [Int.toNat_natCast]; exact h)]
  simp only [Int.toNat_natCast]
  rfl
theorem extract_data (s : ByteArray) (a b : Nat) : (s.extract a b).data.toList = (s.data.toList.take b).drop a := by
  rw [ByteArray.data_extract, Array.toList_extract, List.extract_eq_take_drop, List.drop_take]
theorem split_l0 (c : UInt8) (s : ByteArray) (hm : s.size ≤ 2097152) (d : Nat) : ∀ (from_ i : Nat), from_ ≤ i → i + d = s.size → c ∉ (s.data.toList.take i).drop from_ →
    ∃ R : List ByteArray, Pieces c (s.data.toList.drop from_) (R.map (·.data.toList)) ∧ ∀ (out : List ByteArray) (k : Nat), out.length ≤ i → d + 2 ≤ k → spec_l1Split.l0 k s (c.toNat : Int) out (from_ : Int) (i : Int) = some (out ++ R) := by
  induction d with
  | zero =>
    intro f i hf hi hfree
    have hsz := size_data s
    refine ⟨[s.extract f s.size], ?_, fun out k ho hk => ?_⟩
    · have e : (s.extract f s.size).data.toList = s.data.toList.drop f := by rw [extract_data, List.take_of_length_le (by omega)]
      rw [List.map_singleton, e]
      rw [List.take_of_length_le (by omega)] at hfree
      exact Pieces.one hfree
    · obtain ⟨k, rfl⟩ : ∃ m, k = m + 1 := ⟨k - 1, by omega⟩
      rw [spec_l1Split.l0, if_neg (by omega), if_pos (by omega), if_pos (by omega), if_pos (by omega), Int.toNat_natCast]
  | succ d ih =>
    intro f i hf hi hfree
    have hsz := size_data s
    have hil : i < s.size := by omega
    have hil' : i < s.data.toList.length := by omega
    have hb := bt_get s i hil
    have hw : wrap64 ((i : Int) + 1) = ((i + 1 : Nat) : Int) := by unfold wrap64; omega
    by_cases hc : s.data.toList[i] = c
    · obtain ⟨R, h1, h2⟩ := ih (i + 1) (i + 1) (Nat.le_refl _) (by omega) (by rw [List.drop_eq_nil_of_le (by rw [List.length_take]; omega)]; simp)
      refine ⟨s.extract f i :: R, ?_, fun out k ho hk => ?_⟩
      · have e : (s.extract f i).data.toList = (s.data.toList.take i).drop f := extract_data s f i
        have hd : s.data.toList.drop f = (s.data.toList.take i).drop f ++ c :: s.data.toList.drop (i + 1) := by
          have h7 := List.drop_eq_getElem_cons hil'
          rw [hc] at h7
          rw [← h7]
          conv => lhs; rw [← List.take_append_drop i s.data.toList]
          rw [List.drop_append_of_le_length (by rw [List.length_take]; omega)]
        rw [List.map_cons, e, hd]
        exact Pieces.cons hfree h1
      · obtain ⟨k, rfl⟩ : ∃ m, k = m + 1 := ⟨k - 1, by omega⟩
        have h3 := h2 (out ++ [s.extract f i]) k (by rw [List.length_append, List.length_singleton]; omega) (by omega)
        rw [spec_l1Split.l0, if_pos (by omega), if_pos (by omega), hb, hc, if_pos rfl, if_pos (by omega), if_pos (by omega), if_pos (by omega), if_pos (by omega), hw, Int.toNat_natCast, Int.toNat_natCast, h3, List.append_assoc]
        rfl
    · obtain ⟨R, h1, h2⟩ := ih f (i + 1) (by omega) (by omega) (by
        rw [List.take_succ_eq_append_getElem hil', List.drop_append_of_le_length (by rw [List.length_take]; omega), List.mem_append, List.mem_singleton]
        rintro (h | h)
        · exact hfree h
        · exact hc h.symm)
      refine ⟨R, h1, fun out k ho hk => ?_⟩
      obtain ⟨k, rfl⟩ : ∃ m, k = m + 1 := ⟨k - 1, by omega⟩
      rw [spec_l1Split.l0, if_pos (by omega), if_pos (by omega), hb, if_neg (fun h => hc (UInt8.toNat_inj.mp (by exact_mod_cast h))), hw]
      exact h2 out k (by omega) (by omega)
theorem split_f (c : UInt8) (s : ByteArray) (hm : s.size ≤ 2097152) : ∃ R : List ByteArray, Pieces c s.data.toList (R.map (·.data.toList)) ∧ ∀ k, s.size + 2 ≤ k → spec_l1Split.f k s (c.toNat : Int) = some R := by
  obtain ⟨R, h1, h2⟩ := split_l0 c s hm s.size 0 0 (Nat.le_refl _) (by omega) (by simp)
  refine ⟨R, h1, fun k hk => ?_⟩
  unfold spec_l1Split.f
  exact h2 [] k (Nat.zero_le _) (by omega)
/-- What the reference reads of one byte. -/
def rdv (b : UInt8) : Int := if 48 ≤ b.toNat ∧ b.toNat ≤ 57 then (b.toNat : Int) - 48 else -1
theorem read_one (x : ByteArray) (b : UInt8) (hx : x.data.toList = [b]) (k : Nat) (hk : 4 ≤ k) : spec_l1Read.f k x = some (rdv b) := by
  obtain ⟨k, rfl⟩ : ∃ m, k = m + 4 := ⟨k - 4, by omega⟩
  have hs : x.size = 1 := by rw [← size_data, hx]; rfl
  have hb : bt x 0 = (b.toNat : Int) := by
    have := bt_get x 0 (by omega)
    rw [show ((0 : Nat) : Int) = 0 from rfl] at this
    rw [this]
    have e : x.data.toList[0]'(by rw [hx]; simp) = b := by simp [hx]
    rw [e]
  have h0 : spec_l1Read.l0 (k + 3) x 0 0 = some (rdv b) := by
    rw [spec_l1Read.l0, hs, if_pos (by omega), if_pos (by omega), hb]
    unfold rdv
    have hlt := b.toNat_lt
    by_cases h1 : b.toNat < 48
    · rw [if_pos (by omega), if_neg (by omega)]
    · rw [if_neg (by omega)]
      by_cases h2 : b.toNat > 57
      · rw [if_pos (by omega), if_neg (by omega)]
      · rw [if_neg (by omega), if_pos (by omega), show wrap64 (0 + 1) = 1 by unfold wrap64; omega, spec_l1Read.l0, hs, if_neg (by omega)]
        congr 1
        unfold wrap64
        omega
  unfold spec_l1Read.f
  rw [l1In_f, hs, show inRange ((1 : Nat) : Int) 1 6 = true from rfl, Option.bind_some, if_pos rfl, if_pos (by omega)]
  by_cases h48 : bt x 0 = 48
  · rw [if_pos h48, spec_l1Read.j0, if_neg (by simp)]; exact h0
  · rw [if_neg h48, spec_l1Read.j0, if_neg (by simp)]; exact h0
/-- The digits 0, 1, 2 of a text. -/
def dig (l : List UInt8) : List Int := (l.filter fun b => decide (48 ≤ b.toNat) && decide (b.toNat ≤ 50)).map fun b => (b.toNat : Int) - 48
theorem dig_append (a b : List UInt8) : dig (a ++ b) = dig a ++ dig b := by unfold dig; rw [List.filter_append, List.map_append]
theorem dig_len (l : List UInt8) : (dig l).length ≤ l.length := by unfold dig; rw [List.length_map]; exact List.length_filter_le _ _
theorem digits_l0 (s : ByteArray) (hm : s.size ≤ 2097152) (d : Nat) : ∀ (i k : Nat), i + d = s.size → d + 1 ≤ k → impl_digitsOf.l0 k s 50 (dig (s.data.toList.take i)) (s.size : Int) (i : Int) = some (dig s.data.toList) := by
  induction d with
  | zero =>
    intro i k hi hk
    obtain ⟨k, rfl⟩ : ∃ m, k = m + 1 := ⟨k - 1, by omega⟩
    have hsz := size_data s
    rw [impl_digitsOf.l0, if_neg (by omega), List.take_of_length_le (by omega)]
  | succ d ih =>
    intro i k hi hk
    obtain ⟨k, rfl⟩ : ∃ m, k = m + 1 := ⟨k - 1, by omega⟩
    have hsz := size_data s
    have hil : i < s.size := by omega
    have hil' : i < s.data.toList.length := by omega
    have hb := bt_get s i hil
    have hw : wrap64 ((i : Int) + 1) = ((i + 1 : Nat) : Int) := by unfold wrap64; omega
    have h1 := ih (i + 1) k (by omega) (by omega)
    have hl := dig_len (s.data.toList.take i)
    have hl2 : (s.data.toList.take i).length ≤ i := by rw [List.length_take]; omega
    rw [List.take_succ_eq_append_getElem hil', dig_append] at h1
    rw [impl_digitsOf.l0, if_pos (by omega), if_pos (by omega), if_pos (by omega), hb, hw]
    generalize s.data.toList[i] = b at h1
    have hlt := b.toNat_lt
    by_cases c1 : 48 ≤ b.toNat
    · rw [if_pos (by omega)]
      by_cases c2 : b.toNat ≤ 50
      · rw [if_pos (by omega), if_pos (by omega)]
        have e : dig [b] = [((b.toNat : Int) - 48) % 256] := by
          unfold dig
          rw [List.filter_cons_of_pos (by simp [c1, c2])]
          simp
          omega
        rw [e] at h1
        exact h1
      · rw [if_neg (by omega)]
        have e : dig [b] = [] := by unfold dig; rw [List.filter_cons_of_neg (by simp [c2])]; rfl
        rw [e, List.append_nil] at h1
        exact h1
    · rw [if_neg (by omega)]
      have e : dig [b] = [] := by unfold dig; rw [List.filter_cons_of_neg (by simp [c1])]; rfl
      rw [e, List.append_nil] at h1
      exact h1
theorem digits_f (s : ByteArray) (hm : s.size ≤ 2097152) (k : Nat) (hk : s.size + 1 ≤ k) : impl_digitsOf.f k s 50 = some (dig s.data.toList) := by
  have h := digits_l0 s hm s.size 0 k (by omega) hk
  unfold impl_digitsOf.f
  simpa [dig] using h
/-- The pieces of a text that is joined: the digits. -/
theorem dig_join (c : UInt8) (hc : dig [c] = []) : ∀ P : List (List UInt8), dig (Lib.join P [c]) = P.flatMap dig
  | [] => rfl
  | [x] => by rw [Lib.join_one]; simp
  | x :: y :: r => by
    have hx : x ++ c :: Lib.join (y :: r) [c] = x ++ ([c] ++ Lib.join (y :: r) [c]) := rfl
    rw [join_two, hx, dig_append, dig_append, hc, List.nil_append, dig_join c hc (y :: r)]
    rfl
theorem dig_all (p : List UInt8) (h : ∀ b ∈ p, 0 ≤ rdv b ∧ rdv b ≤ 2) : dig p = p.map rdv := by
  unfold dig
  have h2 : ∀ b ∈ p, 48 ≤ b.toNat ∧ b.toNat ≤ 50 ∧ rdv b = (b.toNat : Int) - 48 := by
    intro b hb
    have h1 := h b hb
    unfold rdv at h1 ⊢
    split at h1
    · rename_i hh
      rw [if_pos hh]
      omega
    · omega
  rw [List.filter_eq_self.mpr (fun b hb => by have := h2 b hb; simp; omega)]
  exact List.map_congr_left (fun b hb => (h2 b hb).2.2.symm)
end Go.Proofs.YtmfocekebenniaaDoor.Oq
