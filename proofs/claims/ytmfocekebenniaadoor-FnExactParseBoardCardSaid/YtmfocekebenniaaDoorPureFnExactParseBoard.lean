/- The law FnExactParseBoard answers true for every text: the program's ParseBoard and the reference's return the same, and what is returned is the caller's own. No condition. -/
import Derived.Test.YtmfocekebenniaaDoorQx5
import Derived.Test.YtmfocekebenniaaDoorOq
import Derived.Test.YtmfocekebenniaaDoorOb
import Derived.Test.YtmfocekebenniaaDoorOj
namespace Go.Proofs.YtmfocekebenniaaDoor.Pure
open Go.RowKit Go.Proofs.YtmfocekebenniaaDoor.Q Go.Proofs.YtmfocekebenniaaDoor.Given Go.Proofs.YtmfocekebenniaaDoor.Pz Go.Proofs.YtmfocekebenniaaDoor.Pm Go.Proofs.YtmfocekebenniaaDoor.Ph Go.Proofs.YtmfocekebenniaaDoor.On Go.Proofs.YtmfocekebenniaaDoor.Oq Go.Proofs.YtmfocekebenniaaDoorW.PrintWords Go.Proofs.YtmfocekebenniaaDoorW.PrintLast
open Go.Proofs.YtmfocekebenniaaDoor.Ob (B dg specL rowL specL_join boardText_f)
set_option linter.unusedVariables false
set_option linter.unusedSimpArgs false
namespace ParseBoard
abbrev Res := Int × Int × List Int × Bool
def bad : Res := (0, 0, [], false)
def mr (p : List UInt8) : List Int := p.map rdv
theorem mr_len (p : List UInt8) : (mr p).length = p.length := List.length_map _
/-- What the reference makes of the rows. -/
def resR (m C : Int) : List Int → List (List UInt8) → Res
  | acc, [] => if (acc.all fun x => inRange x 0 2) = true then (m, C, acc, true) else bad
  | acc, p :: t => if (p.length : Int) = C then resR m C (acc ++ mr p) t else bad
theorem resR_good (m C : Int) : ∀ (Q : List (List UInt8)) (acc : List Int), (∀ p ∈ Q, (p.length : Int) = C) → ((acc ++ Q.flatMap mr).all fun x => inRange x 0 2) = true → resR m C acc Q = (m, C, acc ++ Q.flatMap mr, true)
  | [], acc, _, h => by
    rw [List.flatMap_nil, List.append_nil] at h ⊢
    rw [resR, if_pos h]
  | p :: t, acc, hl, h => by
    rw [List.flatMap_cons, ← List.append_assoc] at h ⊢
    rw [resR, if_pos (hl p (by simp))]
    exact resR_good m C t (acc ++ mr p) (fun q hq => hl q (List.mem_cons_of_mem _ hq)) h
theorem resR_bad (m C : Int) : ∀ (Q : List (List UInt8)) (acc : List Int), ¬ ((∀ p ∈ Q, (p.length : Int) = C) ∧ ((acc ++ Q.flatMap mr).all fun x => inRange x 0 2) = true) → resR m C acc Q = bad
  | [], acc, h => by
    rw [List.flatMap_nil, List.append_nil] at h
    rw [resR, if_neg (fun h2 => h ⟨fun p hp => (by simp at hp), h2⟩)]
  | p :: t, acc, h => by
    rw [List.flatMap_cons, ← List.append_assoc] at h
    rw [resR]
    by_cases hp : (p.length : Int) = C
    · rw [if_pos hp]
      refine resR_bad m C t (acc ++ mr p) (fun h2 => h ⟨fun q hq => ?_, h2.2⟩)
      rcases List.mem_cons.mp hq with rfl | hq
      · exact hp
      · exact h2.1 q hq
    · rw [if_neg hp]
theorem row_l1 (P : List ByteArray) (C : Nat) (acc : List Int) (hacc : acc.length ≤ 10000) (row : ByteArray) (hrow : row.size = C) (hC : C ≤ 30) (j m : Int) (hj : 0 ≤ j ∧ j ≤ 1000) (res : Res) (Bd : Nat)
    (hres : ∀ k, Bd ≤ k → spec_hxParse.l0 k P (C : Int) (acc ++ row.data.toList.map rdv) P m (j + 1) = some res) (e : Nat) :
    ∀ (t k : Nat), t + e = C → Bd + e + 6 ≤ k → spec_hxParse.l1 k P (C : Int) (acc ++ (row.data.toList.take t).map rdv) row (t : Int) P m j = some res := by
  have hsz := size_data row
  induction e with
  | zero =>
    intro t k ht hk
    obtain ⟨k, rfl⟩ : ∃ m, k = m + 1 := ⟨k - 1, by omega⟩
    rw [spec_hxParse.l1, if_neg (by omega), List.take_of_length_le (by omega), show wrap64 (j + 1) = j + 1 by unfold wrap64; omega]
    exact hres k (by omega)
  | succ e ih =>
    intro t k ht hk
    obtain ⟨k, rfl⟩ : ∃ m, k = m + 1 := ⟨k - 1, by omega⟩
    have htl : t < row.data.toList.length := by omega
    have hex : (row.extract t (t + 1)).data.toList = [row.data.toList[t]] := by
      rw [extract_data, List.take_succ_eq_append_getElem htl, List.drop_append_of_le_length (by rw [List.length_take]; omega), List.drop_eq_nil_of_le (by rw [List.length_take]; omega)]
      rfl
    have h1 := ih (t + 1) k (by omega) (by omega)
    have hw : wrap64 ((t : Int) + 1) = ((t + 1 : Nat) : Int) := by unfold wrap64; omega
    have hl : ((row.data.toList.take t).map rdv).length ≤ 30 := by rw [List.length_map, List.length_take]; omega
    rw [List.take_succ_eq_append_getElem htl, List.map_append, List.map_singleton, ← List.append_assoc] at h1
    rw [spec_hxParse.l1, if_pos (by omega), if_pos (by omega), hw, if_pos (by omega), if_pos (by omega), Int.toNat_natCast, Int.toNat_natCast, read_one _ _ hex k (by omega), Option.bind_some, if_pos (by rw [List.length_append]; omega)]
    exact h1
theorem rows_l0 (P : List ByteArray) (C : Nat) (hC : C ≤ 30) (hP : P.length ≤ 30) (d : Nat) : ∀ (j k : Nat) (acc : List Int), j + d = P.length → acc.length ≤ 30 * j → 60 * d + 2000 ≤ k →
    spec_hxParse.l0 k P (C : Int) acc P (P.length : Int) (j : Int) = some (resR (P.length : Int) (C : Int) acc ((P.drop j).map (·.data.toList))) := by
  induction d with
  | zero =>
    intro j k acc hj hacc hk
    obtain ⟨k, rfl⟩ : ∃ m, k = m + 1 := ⟨k - 1, by omega⟩
    rw [spec_hxParse.l0, if_neg (by omega), l1All_f acc 0 2 (by omega) k (by omega), Option.bind_some, List.drop_eq_nil_of_le (by omega), List.map_nil, resR]
    split <;> rfl
  | succ d ih =>
    intro j k acc hj hacc hk
    obtain ⟨k, rfl⟩ : ∃ m, k = m + 1 := ⟨k - 1, by omega⟩
    have hjl : j < P.length := by omega
    have hrd : rdOf ByteArray.empty P (j : Int) = P[j] := by unfold rdOf; rw [Int.toNat_natCast, List.getD_eq_getElem?_getD, List.getElem?_eq_getElem hjl]; rfl
    have hsz := size_data P[j]
    rw [spec_hxParse.l0, if_pos (by omega), if_pos (by omega), if_pos (by omega), hrd, List.drop_eq_getElem_cons hjl, List.map_cons, resR]
    by_cases hc : (P[j].size : Int) = C
    · rw [if_pos hc, if_pos (by omega)]
      have hres := fun k hk => ih (j + 1) k (acc ++ P[j].data.toList.map rdv) (by omega) (by rw [List.length_append, List.length_map]; omega) hk
      have h := row_l1 P C acc (by omega) P[j] (by omega) hC (j : Int) (P.length : Int) ⟨by omega, by omega⟩ _ (60 * d + 2000) (fun k hk => by
        have := hres k hk
        rw [show ((j + 1 : Nat) : Int) = (j : Int) + 1 by omega] at this
        exact this) C 0 k (by omega) (by omega)
      rw [List.take_zero, List.map_nil, List.append_nil] at h
      exact h
    · rw [if_neg hc, if_neg (by omega)]
      rfl
theorem flat_len (f : List UInt8 → List Int) (C : Nat) (hf : ∀ p : List UInt8, (f p).length = p.length) : ∀ Q : List (List UInt8), (∀ p ∈ Q, p.length = C) → (Q.flatMap f).length = Q.length * C
  | [], _ => by simp
  | p :: t, h => by
    rw [List.flatMap_cons, List.length_append, hf, h p (by simp), flat_len f C hf t (fun q hq => h q (List.mem_cons_of_mem _ hq)), List.length_cons, Nat.succ_mul, Nat.add_comm]
theorem flat_block (f : List UInt8 → List Int) (C : Nat) (hf : ∀ p : List UInt8, (f p).length = p.length) : ∀ (Q : List (List UInt8)) (j : Nat) (hj : j < Q.length), (∀ p ∈ Q, p.length = C) → ((Q.flatMap f).drop (j * C)).take C = f Q[j]
  | p :: t, 0, _, h => by
    have hp := h p (by simp)
    rw [List.flatMap_cons, Nat.zero_mul, List.drop_zero, List.take_append_of_le_length (by rw [hf, hp]; exact Nat.le_refl _), List.take_of_length_le (by rw [hf, hp]; exact Nat.le_refl _)]
    rfl
  | p :: t, j + 1, hj, h => by
    have hp := h p (by simp)
    rw [List.flatMap_cons, Nat.succ_mul, List.drop_append, List.drop_eq_nil_of_le (by rw [hf, hp]; exact Nat.le_add_left _ _), List.nil_append, hf, hp, Nat.add_sub_cancel]
    exact flat_block f C hf t j (by simpa using hj) (fun q hq => h q (List.mem_cons_of_mem _ hq))
theorem fm_congr {f g : List UInt8 → List Int} : ∀ Q : List (List UInt8), (∀ p ∈ Q, f p = g p) → Q.flatMap f = Q.flatMap g
  | [], _ => rfl
  | p :: t, h => by rw [List.flatMap_cons, List.flatMap_cons, h p (by simp), fm_congr t (fun q hq => h q (List.mem_cons_of_mem _ hq))]
theorem dg_rdv (b : UInt8) (h : 0 ≤ rdv b ∧ rdv b ≤ 2) : dg (rdv b) = b := by
  unfold rdv at h
  split at h
  · rename_i hh
    unfold rdv dg
    rw [if_pos hh]
    have : (wrap64 (48 + ((b.toNat : Int) - 48)) % 256).toNat = b.toNat := by unfold wrap64; omega
    rw [this]
    simp
  · omega
theorem rdv_dg (x : Int) (h : 0 ≤ x ∧ x ≤ 2) : rdv (dg x) = x ∧ dg x ≠ 47 := by
  have h3 : x = 0 ∨ x = 1 ∨ x = 2 := by omega
  rcases h3 with rfl | rfl | rfl
  · exact ⟨by decide +kernel, by decide +kernel⟩
  · exact ⟨by decide +kernel, by decide +kernel⟩
  · exact ⟨by decide +kernel, by decide +kernel⟩
theorem all_iff (l : List Int) : (l.all fun x => inRange x 0 2) = true ↔ ∀ x ∈ l, 0 ≤ x ∧ x ≤ 2 := by
  rw [List.all_eq_true]
  constructor
  · intro h x hx; have := h x hx; unfold inRange at this; simpa using this
  · intro h x hx; have := h x hx; unfold inRange; simpa using this
/-- The program's part, given the pieces. -/
theorem impl_part (s : ByteArray) (Q : List (List UInt8)) (hQ : Pieces 47 s.data.toList Q) (m C : Nat) (hm : Q.length = m) (hsh : hshape (m : Int) (C : Int) = true) (k : Nat) :
    ((impl_isBoard.f (m : Int) (C : Int) (dig s.data.toList)).bind fun t151 => (if t151 = true then ((impl_boardText.f (C : Int) (dig s.data.toList)).bind fun t152 => (if t152.toList = s.toList then (some ((m : Int), (C : Int), dig s.data.toList, true)) else (some (0, 0, ([] : List Int), false)))) else (some (0, 0, ([] : List Int), false)))) = some (resR (m : Int) (C : Int) [] Q) := by
  obtain ⟨s1, s2, s3⟩ := shape_of hsh
  have hmul : 0 ≤ (m : Int) * C := Int.mul_nonneg (by omega) (by omega)
  have hmul2 : (m : Int) * C ≤ 30 * 30 := Int.mul_le_mul s1.2 s2.2 (by omega) (by omega)
  rw [wr (by omega) (by omega)] at s3
  have hB : impl_isBoard.f (m : Int) (C : Int) (dig s.data.toList) = some ((((dig s.data.toList).length : Int) == (m : Int) * C) && ((dig s.data.toList).all fun x => inRange x 0 2)) := by
    unfold impl_isBoard.f
    rw [isShape_f, hsh, Option.bind_some, Bool.true_and, wr (x := (m : Int) * C) (by omega) (by omega), List.all_eq_not_any_not]
  have hmn : (m : Int) * C = ((m * C : Nat) : Int) := by rw [Int.natCast_mul]
  rw [hB, Option.bind_some]
  obtain ⟨q1, q2, q3⟩ := hQ
  by_cases good : (∀ p ∈ Q, (p.length : Int) = C) ∧ (([] ++ Q.flatMap mr).all fun x => inRange x 0 2) = true
  · have hlen : ∀ p ∈ Q, p.length = C := fun p hp => by have := good.1 p hp; omega
    have hv := good.2
    rw [List.nil_append, all_iff] at hv
    have hvp : ∀ p ∈ Q, ∀ b ∈ p, 0 ≤ rdv b ∧ rdv b ≤ 2 := fun p hp b hb => hv _ (List.mem_flatMap.mpr ⟨p, hp, List.mem_map_of_mem hb⟩)
    have hd : dig s.data.toList = Q.flatMap mr := by
      rw [← q3, dig_join 47 (by decide)]
      exact fm_congr Q (fun p hp => dig_all p (hvp p hp))
    have hl := flat_len mr C mr_len Q hlen
    rw [hm] at hl
    have hg := resR_good (m : Int) (C : Int) Q [] good.1 good.2
    rw [List.nil_append] at hg
    rw [hg, hd]
    have e1 : (((Q.flatMap mr).length : Int) == (m : Int) * C) = true := by rw [hl, hmn]; exact beq_self_eq_true _
    have e2 : ((Q.flatMap mr).all fun x => inRange x 0 2) = true := (all_iff _).mpr hv
    rw [e1, e2, Bool.and_self, if_pos rfl]
    have h0 : 0 < m * C := Nat.mul_pos (by omega) (by omega)
    have hbt := boardText_f (Q.flatMap mr) C m (by omega) (by omega) hl (by rw [hl]; exact h0) (by rw [hl]; omega)
    have hrows : (List.range m).map (rowL (Q.flatMap mr) C) = Q := by
      apply List.ext_getElem (by simp [hm])
      intro j h1 h2
      rw [List.getElem_map, List.getElem_range]
      unfold rowL
      rw [flat_block mr C mr_len Q j h2 hlen, mr, List.map_map]
      have : ∀ b ∈ Q[j], (dg ∘ rdv) b = b := fun b hb => dg_rdv b (hvp _ (List.getElem_mem h2) b hb)
      exact (List.map_congr_left this).trans (List.map_id _)
    have htx : B (specL (Q.flatMap mr) C (Q.flatMap mr).length) = s := by
      rw [hl, specL_join _ C (by omega) m (by omega), hrows, q3]
      rfl
    rw [hbt, Option.bind_some, htx, if_pos rfl]
  · rw [resR_bad (m : Int) (C : Int) Q [] good]
    cases hb : ((((dig s.data.toList).length : Int) == (m : Int) * C) && ((dig s.data.toList).all fun x => inRange x 0 2)) with
    | false => rw [if_neg (by decide)]; rfl
    | true =>
      rw [if_pos rfl]
      rw [Bool.and_eq_true] at hb
      have hl : (dig s.data.toList).length = m * C := by
        have := eq_of_beq hb.1
        rw [hmn] at this
        exact_mod_cast this
      have hv := (all_iff _).mp hb.2
      have h0 : 0 < m * C := Nat.mul_pos (by omega) (by omega)
      rw [boardText_f _ C m (by omega) (by omega) hl (by rw [hl]; exact h0) (by rw [hl]; omega), Option.bind_some, if_neg]
      · rfl
      · intro heq
        apply good
        rw [Lib.toList_data, Lib.toList_data] at heq
        have htx : specL (dig s.data.toList) C (dig s.data.toList).length = s.data.toList := by simpa [B] using heq
        rw [hl, specL_join _ C (by omega) m (by omega)] at htx
        have hmem : ∀ p ∈ (List.range m).map (rowL (dig s.data.toList) C), p.length = C ∧ ∀ b ∈ p, (0 ≤ rdv b ∧ rdv b ≤ 2) ∧ b ≠ 47 := by
          intro p hp
          obtain ⟨j, hj, rfl⟩ := List.mem_map.mp hp
          have hjm := List.mem_range.mp hj
          have hjC : j * C + C ≤ m * C := by rw [← Nat.succ_mul]; exact Nat.mul_le_mul_right _ hjm
          refine ⟨by unfold rowL; rw [List.length_map, List.length_take, List.length_drop]; omega, fun b hb => ?_⟩
          unfold rowL at hb
          obtain ⟨x, hx, rfl⟩ := List.mem_map.mp hb
          have hx2 := hv x (List.mem_of_mem_drop (List.mem_of_mem_take hx))
          have h5 := rdv_dg x hx2
          exact ⟨by rw [h5.1]; exact hx2, h5.2⟩
        have hP2 : Pieces 47 s.data.toList ((List.range m).map (rowL (dig s.data.toList) C)) := by
          refine ⟨?_, fun p hp h47 => ((hmem p hp).2 47 h47).2 rfl, htx⟩
          intro he
          have := congrArg List.length he
          rw [List.length_map, List.length_range, List.length_nil] at this
          omega
        have hQe := Pieces.unique ⟨q1, q2, q3⟩ hP2
        rw [hQe]
        refine ⟨fun p hp => by rw [(hmem p hp).1], ?_⟩
        rw [List.nil_append, all_iff]
        intro x hx
        obtain ⟨p, hp, hx⟩ := List.mem_flatMap.mp hx
        obtain ⟨b, hb, rfl⟩ := List.mem_map.mp hx
        exact ((hmem p hp).2 b hb).1
theorem same (s : ByteArray) (hs : s.size ≤ 1048576) : ∃ (K : Nat) (g : Res), g.2.2.1.length ≤ 1048576 ∧ ∀ k, K ≤ k → spec_ParseBoard.f k s = some g ∧ impl_ParseBoard.f k s = some g := by
  obtain ⟨P, hP, hsp⟩ := split_f 47 s (by omega)
  have h47 : ((47 : UInt8).toNat : Int) = 47 := rfl
  rw [h47] at hsp
  have hP2 := splitB_pieces 47 _ s rfl
  have hPe : Lib.splitB ⟨#[47]⟩ 0 (Lib.countB s ⟨#[47]⟩) s = P := by
    have h := Pieces.unique hP2 hP
    have inj : Function.Injective (fun x : ByteArray => x.data.toList) := by
      intro a b hab
      exact ByteArray.ext (Array.toList_inj.mp hab)
    exact (List.map_inj_right (fun a b h => inj h)).mp h
  have hS : strings_Split.f s (⟨#[47]⟩ : ByteArray) = some P := by
    unfold strings_Split.f
    rw [if_pos ⟨rfl, by omega⟩, hPe]
  have hne : 0 < P.length := by
    rcases Nat.eq_zero_or_pos P.length with h | h
    · exact absurd (by rw [List.length_eq_zero_iff.mp h]; rfl) hP.1
    · exact h
  have hdl := dig_len s.data.toList
  have hsz := size_data s
  cases hsh : hshape (P.length : Int) ((rdOf ByteArray.empty P 0).size : Int) with
  | false =>
    refine ⟨s.size + 3, bad, by simp [bad], fun k hk => ⟨?_, ?_⟩⟩
    · unfold spec_ParseBoard.f spec_hxParse.f
      rw [hsp k (by omega), Option.bind_some, if_pos (by omega), hxSides_f, hsh]
      rfl
    · unfold impl_ParseBoard.f impl_isBoard.f
      rw [hS, Option.bind_some, if_pos (by omega), digits_f s (by omega) k (by omega), Option.bind_some, isShape_f, hsh]
      rfl
  | true =>
    obtain ⟨s1, s2, s3⟩ := shape_of hsh
    have hr := rows_l0 P (rdOf ByteArray.empty P 0).size (by omega) (by omega) P.length 0
    have hi := impl_part s (P.map (fun x : ByteArray => x.data.toList)) hP P.length (rdOf ByteArray.empty P 0).size (by simp) hsh
    have hgl : (resR (P.length : Int) ((rdOf ByteArray.empty P 0).size : Int) [] (P.map (fun x : ByteArray => x.data.toList))).2.2.1.length ≤ 1048576 := by
      by_cases good : (∀ p ∈ P.map (fun x : ByteArray => x.data.toList), (p.length : Int) = ((rdOf ByteArray.empty P 0).size : Int)) ∧ (([] ++ (P.map (fun x : ByteArray => x.data.toList)).flatMap mr).all fun x => inRange x 0 2) = true
      · rw [resR_good _ _ _ _ good.1 good.2, List.nil_append, flat_len mr (rdOf ByteArray.empty P 0).size mr_len _ (fun p hp => by have := good.1 p hp; omega)]
        rw [List.length_map]
        have : P.length * (rdOf ByteArray.empty P 0).size ≤ 30 * 30 := Nat.mul_le_mul (by omega) (by omega)
        show P.length * (rdOf ByteArray.empty P 0).size ≤ 1048576
        omega
      · rw [resR_bad _ _ _ _ good]
        simp [bad]
    refine ⟨s.size + 10000, resR (P.length : Int) ((rdOf ByteArray.empty P 0).size : Int) [] (P.map (fun x : ByteArray => x.data.toList)), hgl, fun k hk => ⟨?_, ?_⟩⟩
    · unfold spec_ParseBoard.f spec_hxParse.f
      have h := hr k [] (by omega) (by simp) (by omega)
      rw [hsp k (by omega), Option.bind_some, if_pos (by omega), hxSides_f, hsh, Option.bind_some, if_pos rfl]
      rw [show ((0 : Nat) : Int) = 0 from rfl, List.drop_zero] at h
      rw [h]
      rfl
    · unfold impl_ParseBoard.f
      rw [hS, Option.bind_some, if_pos (by omega), digits_f s (by omega) k (by omega), Option.bind_some]
      exact hi k
end ParseBoard
theorem FnExactParseBoard : laws_FnExactParseBoard.Pure := by
  intro s _
  by_cases hb : (s.size : Int) > 1048576
  · exact ⟨1, by unfold laws_FnExactParseBoard.f; rw [if_pos hb]⟩
  · obtain ⟨K0, g, hl, hg⟩ := ParseBoard.same s (by omega)
    obtain ⟨g0, g1, g2, g3⟩ := g
    obtain ⟨K, hK⟩ : ∃ K, g2.length + K0 + 10 ≤ K := ⟨_, Nat.le_refl _⟩
    refine ⟨K + 3, ?_⟩
    dsimp only at hl
    have ve : ∀ k, g2.length < k → laws_eqIntS.f k g2 g2 = some true := fun k hk => by rw [eqIntS_f g2 g2 (by omega) k (by omega)]; simp
    have vm : ∀ k, g2.length < k → laws_markIntS.f k g2 1 = some (1 + (g2.length : Int), marks 1 g2.length) := fun k hk => markIntS_f g2 1 k (by omega) (by omega) (by omega)
    have vh : ∀ k, g2.length < k → laws_heldIntS.f k (marks 1 g2.length) 1 = some (1 + g2.length) := fun k hk => heldIntS_f g2.length 1 k (by omega) (by omega) (by omega)
    have p1 : ¬ (1 + (g2.length : Int) < 0) := by omega
    unfold laws_FnExactParseBoard.f
    rw [if_neg hb, (hg (K + 3) (by omega)).1, (hg (K + 3) (by omega)).2]
    simp only [Option.bind_some, if_true, ve (K + 3) (by omega)]
    simp [laws_FnExactParseBoard.j0, laws_FnExactParseBoard.j1, vm (K + 2) (by omega), vh (K + 2) (by omega), (hg (K + 2) (by omega)).2, ve (K + 2) (by omega), vh (K + 1) (by omega), p1]
end Go.Proofs.YtmfocekebenniaaDoor.Pure
