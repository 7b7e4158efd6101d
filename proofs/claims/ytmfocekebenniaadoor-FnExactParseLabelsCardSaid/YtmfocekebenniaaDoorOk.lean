/- Plain: the reference's ParseLabels and the program's return the same. For all texts of at most 2^20 bytes. -/
import Derived.Test.YtmfocekebenniaaDoorOu
import Derived.Test.YtmfocekebenniaaDoorOm
import Derived.Test.YtmfocekebenniaaDoorOq
import Derived.Test.YtmfocekebenniaaDoorQx3
namespace Go.Proofs.YtmfocekebenniaaDoor.Ok
open Go.RowKit Go.Proofs.YtmfocekebenniaaDoor.Q Go.Proofs.YtmfocekebenniaaDoor.Given Go.Proofs.YtmfocekebenniaaDoor.Pz Go.Proofs.YtmfocekebenniaaDoor.Pm Go.Proofs.YtmfocekebenniaaDoor.On Go.Proofs.YtmfocekebenniaaDoor.Oq Go.Proofs.YtmfocekebenniaaDoorW.PrintWords Go.Proofs.YtmfocekebenniaaDoorW.PrintLast
open Go.Proofs.YtmfocekebenniaaDoor.Om (dg B B_append B_size num_f digB_B specT rowM rows_run rowT_B)
set_option linter.unusedVariables false
set_option linter.unusedSimpArgs false
abbrev Res := Int × List Int × Bool
def bad : Res := (0, [], false)
def Valid (n : Nat) (l : List Int) : Prop := 1 ≤ n ∧ n ≤ 8 ∧ l.length = tri (n + 1) ∧ ∀ x ∈ l, 0 ≤ x ∧ x ≤ 2
/-- The text of labels. -/
def T (n : Nat) (l : List Int) : ByteArray := B ([dg (n : Int), 58] ++ specT l (n + 1))
theorem rd_mem (l : List Int) (j : Nat) (hj : j < l.length) : rd l (j : Nat) ∈ l := by
  have he : rd l (j : Nat) = l[j] := by unfold rd; rw [List.getD_eq_getElem?_getD, Int.toNat_natCast, List.getElem?_eq_getElem hj]; rfl
  rw [he]; exact List.getElem_mem hj
theorem text_T {n : Nat} {l : List Int} (h : Valid n l) : (∀ k, 1000 ≤ k → spec_meText.f k (n : Int) l = some (T n l)) ∧ impl_labelsText.f (n : Int) l = some (T n l) := by
  obtain ⟨h1, h8, hl, hv⟩ := h
  have hd : ∀ j : Nat, j < l.length → 0 ≤ rd l (j : Nat) ∧ rd l (j : Nat) ≤ 9 := fun j hj => by have := hv _ (rd_mem l j hj); omega
  have e58 : (⟨#[58]⟩ : ByteArray) = B [58] := rfl
  refine ⟨fun k hk => ?_, ?_⟩
  · have h2 := rows_run l n h8 hl hd [dg (n : Int), 58] (by simp) (n + 1) 0 k (by omega) (by omega)
    unfold spec_meText.f
    rw [num_f _ (by omega) k (by omega), Option.bind_some, e58, B_size, B_append, if_pos (by simp)]
    exact h2
  · unfold impl_labelsText.f
    rw [Int.toNat_natCast, if_pos ⟨by omega, by omega, hl⟩, digB_B n (by omega)]
    have hj : joinR l (n + 1) = B (specT l (n + 1)) := by
      unfold joinR specT triRows
      rw [List.map_map]
      have : (List.range (n + 1)).map ((fun x : ByteArray => x.data.toList) ∘ triRow l) = (List.range (n + 1)).map (rowM l) := by
        apply List.map_congr_left
        intro j _
        show (triRow l j).data.toList = rowM l j
        unfold triRow
        rw [rowT_B]
        simp [B, rowM]
      rw [this]
      rfl
    rw [hj, e58, B_append, B_append]
    rfl
theorem labels_v (a : Int) (l : List Int) (hm : l.length ≤ 1099511627776) : ∃ b, (∀ k, l.length < k → spec_meLabels.f k a l = some b) ∧ impl_areLabels.f a l = some b ∧ (b = true → ∃ n : Nat, a = n ∧ Valid n l) ∧ (∀ n : Nat, a = n → Valid n l → b = true) := by
  have key : ∀ n : Nat, 1 ≤ n → n ≤ 8 → wrap64 (Int.tdiv (wrap64 ((wrap64 ((n : Int) + 1)) * (wrap64 ((n : Int) + 2)))) 2) = ((tri (n + 1) : Nat) : Int) := by
    intro n h1 h2
    have hn : n = 1 ∨ n = 2 ∨ n = 3 ∨ n = 4 ∨ n = 5 ∨ n = 6 ∨ n = 7 ∨ n = 8 := by omega
    rcases hn with rfl | rfl | rfl | rfl | rfl | rfl | rfl | rfl
    all_goals decide +kernel
  have hall : (l.all fun x => inRange x 0 2) = true ↔ ∀ x ∈ l, 0 ≤ x ∧ x ≤ 2 := by
    rw [List.all_eq_true]
    constructor
    · intro h x hx; have := h x hx; unfold inRange at this; simpa using this
    · intro h x hx; have := h x hx; unfold inRange; simpa using this
  obtain ⟨b, _, h2, _⟩ := meLabels_f a l hm (l.length + 1) (by omega)
  have h2' := h2
  unfold impl_areLabels.f impl_many.f at h2'
  rw [isSide_f] at h2'
  simp only [Option.bind_some] at h2'
  injection h2' with h2'
  refine ⟨b, fun k hk => ?_, h2, fun hb => ?_, fun n hn hv => ?_⟩
  · obtain ⟨b', e1, e2, _⟩ := meLabels_f a l hm k hk
    rw [h2] at e2
    injection e2 with e2
    rw [e2]; exact e1
  · subst hb
    rw [Bool.and_eq_true, Bool.and_eq_true] at h2'
    obtain ⟨e1, e2, e3⟩ := h2'
    have e1' : 1 ≤ a ∧ a ≤ 8 := by unfold inRange at e1; simpa using e1
    obtain ⟨n, rfl⟩ := Int.eq_ofNat_of_zero_le (show 0 ≤ a by omega)
    have e2' := eq_of_beq e2
    rw [key n (by omega) (by omega)] at e2'
    exact ⟨n, rfl, by omega, by omega, by exact_mod_cast e2', hall.mp e3⟩
  · obtain ⟨v1, v2, v3, v4⟩ := hv
    subst hn
    rw [← h2', key n v1 v2, hall.mpr v4, v3]
    have : inRange (n : Int) 1 8 = true := by unfold inRange; simp; omega
    rw [this]
    simp
/-! the last step -/
theorem fin_f (s : ByteArray) (v : Int) (A : List Int) (hA : A.length ≤ 1000000) : ∃ g : Res, (∀ k, A.length + 1100 ≤ k → ((spec_meLabels.f k v A).bind fun t145 => (if t145 = true then ((spec_meText.f k v A).bind fun t146 => (if t146.toList = s.toList then (some (v, A, true)) else (some (0, ([] : List Int), false)))) else (some (0, ([] : List Int), false)))) = some g) ∧ (g = bad ∨ ∃ n : Nat, v = n ∧ Valid n A ∧ T n A = s ∧ g = (v, A, true)) ∧ (∀ n : Nat, v = n → Valid n A → T n A = s → g = (v, A, true)) := by
  obtain ⟨b, h1, h2, h3, h4⟩ := labels_v v A (by omega)
  cases b with
  | false =>
    refine ⟨bad, fun k hk => by rw [h1 k (by omega)]; rfl, .inl rfl, fun n hn hv _ => ?_⟩
    have := h4 n hn hv
    cases this
  | true =>
    obtain ⟨n, rfl, hv⟩ := h3 rfl
    obtain ⟨t1, _⟩ := text_T hv
    have hbl : ∀ a b : ByteArray, a.toList = b.toList → a = b := fun a b h => by
      rw [Lib.toList_data, Lib.toList_data] at h
      exact ByteArray.ext (Array.toList_inj.mp h)
    by_cases ht : T n A = s
    · refine ⟨((n : Int), A, true), fun k hk => by rw [h1 k (by omega), Option.bind_some, if_pos rfl, t1 k (by omega), Option.bind_some, if_pos (by rw [ht])], .inr ⟨n, rfl, hv, ht, rfl⟩, fun _ _ _ _ => rfl⟩
    · refine ⟨bad, fun k hk => by rw [h1 k (by omega), Option.bind_some, if_pos rfl, t1 k (by omega), Option.bind_some, if_neg (fun h => ht (hbl _ _ h))]; rfl, .inl rfl, fun m hm _ hx => ?_⟩
      have : n = m := by omega
      subst this
      exact absurd hx ht
def mr (p : List UInt8) : List Int := p.map rdv
theorem row_l1 (s : ByteArray) (v : Int) (Q : List ByteArray) (acc : List Int) (row : ByteArray) (hrow : row.size ≤ 100) (hacc : acc.length ≤ 100000) (j m : Int) (hj : 0 ≤ j ∧ j ≤ 1000) (res : Res) (Bd : Nat)
    (hres : ∀ k, Bd ≤ k → spec_meParse.l0 k s v (acc ++ mr row.data.toList) Q m (j + 1) = some res) (e : Nat) :
    ∀ (t k : Nat), t + e = row.size → Bd + e + 6 ≤ k → spec_meParse.l1 k s v (acc ++ mr (row.data.toList.take t)) row (t : Int) Q m j = some res := by
  have hsz := size_data row
  induction e with
  | zero =>
    intro t k ht hk
    obtain ⟨k, rfl⟩ : ∃ m, k = m + 1 := ⟨k - 1, by omega⟩
    rw [spec_meParse.l1, if_neg (by omega), List.take_of_length_le (by omega), show wrap64 (j + 1) = j + 1 by unfold wrap64; omega]
    exact hres k (by omega)
  | succ e ih =>
    intro t k ht hk
    obtain ⟨k, rfl⟩ : ∃ m, k = m + 1 := ⟨k - 1, by omega⟩
    have htl : t < row.data.toList.length := by omega
    have hex : (row.extract t (t + 1)).data.toList = [row.data.toList[t]] := by
      rw [extract_data, List.take_succ_eq_append_getElem htl, List.drop_append_of_le_length (by rw [List.length_take]; omega), List.drop_eq_nil_of_le (by rw [List.length_take]; omega)]
      rfl
    have h1 := ih (t + 1) k (by omega) (by omega)
    have hw : wrap64 ((t : Int) + 1) = ((t + 1 : Nat) : Int) := by unfold wrap64; omega
    have hl : (mr (row.data.toList.take t)).length ≤ 100 := by unfold mr; rw [List.length_map, List.length_take]; omega
    have hmr : mr (row.data.toList.take (t + 1)) = mr (row.data.toList.take t) ++ [rdv row.data.toList[t]] := by unfold mr; rw [List.take_succ_eq_append_getElem htl, List.map_append, List.map_singleton]
    rw [hmr, ← List.append_assoc] at h1
    rw [spec_meParse.l1, if_pos (by omega), if_pos (by omega), hw, if_pos (by omega), if_pos (by omega), Int.toNat_natCast, Int.toNat_natCast, read_one _ _ hex k (by omega), Option.bind_some, if_pos (by rw [List.length_append]; omega)]
    exact h1
theorem rows_l0 (s : ByteArray) (v : Int) (Q : List ByteArray) (hQ : Q.length ≤ 200) (hq : ∀ q ∈ Q, q.size ≤ 100) (A : List Int) (hA : A.length ≤ 100000) (res : Res) (Bd : Nat)
    (hres : ∀ k, Bd ≤ k → ((spec_meLabels.f k v A).bind fun t145 => (if t145 = true then ((spec_meText.f k v A).bind fun t146 => (if t146.toList = s.toList then (some (v, A, true)) else (some (0, ([] : List Int), false)))) else (some (0, ([] : List Int), false)))) = some res) (d : Nat) :
    ∀ (j k : Nat) (acc : List Int), j + d = Q.length → acc ++ (Q.drop j).flatMap (fun q => mr q.data.toList) = A → Bd + 200 * d + 1 ≤ k → spec_meParse.l0 k s v acc Q (Q.length : Int) (j : Int) = some res := by
  induction d with
  | zero =>
    intro j k acc hj hacc hk
    obtain ⟨k, rfl⟩ : ∃ m, k = m + 1 := ⟨k - 1, by omega⟩
    rw [List.drop_eq_nil_of_le (by omega), List.flatMap_nil, List.append_nil] at hacc
    subst hacc
    rw [spec_meParse.l0, if_neg (by omega)]
    exact hres k (by omega)
  | succ d ih =>
    intro j k acc hj hacc hk
    obtain ⟨k, rfl⟩ : ∃ m, k = m + 1 := ⟨k - 1, by omega⟩
    have hjl : j < Q.length := by omega
    have hrd : rdOf ByteArray.empty Q (j : Int) = Q[j] := by unfold rdOf; rw [Int.toNat_natCast, List.getD_eq_getElem?_getD, List.getElem?_eq_getElem hjl]; rfl
    have hqs := hq _ (List.getElem_mem hjl)
    rw [List.drop_eq_getElem_cons hjl, List.flatMap_cons, ← List.append_assoc] at hacc
    have hal : acc.length ≤ 100000 := by
      have := congrArg List.length hacc
      rw [List.length_append, List.length_append] at this
      omega
    have h := row_l1 s v Q acc Q[j] hqs hal (j : Int) (Q.length : Int) ⟨by omega, by omega⟩ res (Bd + 200 * d + 1) (fun k hk => by
      have := ih (j + 1) k (acc ++ mr Q[j].data.toList) (by omega) hacc hk
      rw [show ((j + 1 : Nat) : Int) = (j : Int) + 1 by omega] at this
      exact this) Q[j].size 0 k (by omega) (by omega)
    have h0 : mr (Q[j].data.toList.take 0) = [] := rfl
    rw [h0, List.append_nil] at h
    rw [spec_meParse.l0, if_pos (by omega), if_pos (by omega), if_pos (by omega), hrd]
    exact h
/-- A number is read, whatever it is. -/
theorem read_l0 (x : ByteArray) (hx : x.size ≤ 100000) (d : Nat) : ∀ (i : Nat) (a : Int), i + d = x.size → ∃ v, ∀ k, d + 1 ≤ k → spec_l1Read.l0 k x a (i : Int) = some v := by
  induction d with
  | zero =>
    intro i a hi
    refine ⟨a, fun k hk => ?_⟩
    obtain ⟨k, rfl⟩ : ∃ m, k = m + 1 := ⟨k - 1, by omega⟩
    rw [spec_l1Read.l0, if_neg (by omega)]
  | succ d ih =>
    intro i a hi
    by_cases h1 : bt x (i : Int) < 48
    · refine ⟨-1, fun k hk => ?_⟩
      obtain ⟨k, rfl⟩ : ∃ m, k = m + 1 := ⟨k - 1, by omega⟩
      rw [spec_l1Read.l0, if_pos (by omega), if_pos (by omega), if_pos h1]
    · by_cases h2 : bt x (i : Int) > 57
      · refine ⟨-1, fun k hk => ?_⟩
        obtain ⟨k, rfl⟩ : ∃ m, k = m + 1 := ⟨k - 1, by omega⟩
        rw [spec_l1Read.l0, if_pos (by omega), if_pos (by omega), if_neg h1, if_pos h2]
      · obtain ⟨v, hv⟩ := ih (i + 1) (wrap64 ((wrap64 (10 * a)) + (((bt x (i : Int)) - 48) % 256))) (by omega)
        refine ⟨v, fun k hk => ?_⟩
        obtain ⟨k, rfl⟩ : ∃ m, k = m + 1 := ⟨k - 1, by omega⟩
        rw [spec_l1Read.l0, if_pos (by omega), if_pos (by omega), if_neg h1, if_neg h2, show wrap64 ((i : Int) + 1) = ((i + 1 : Nat) : Int) by unfold wrap64; omega]
        exact hv k (by omega)
theorem read_some (x : ByteArray) (hx : x.size ≤ 100000) : ∃ v, ∀ k, x.size + 4 ≤ k → spec_l1Read.f k x = some v := by
  obtain ⟨v, hv⟩ := read_l0 x hx x.size 0 0 (by omega)
  have hj : ∀ b, ∃ u, ∀ k, x.size + 4 ≤ k → spec_l1Read.j0 k x b = some u := by
    intro b
    cases b with
    | true =>
      refine ⟨-1, fun k hk => ?_⟩
      obtain ⟨k, rfl⟩ : ∃ m, k = m + 1 := ⟨k - 1, by omega⟩
      rw [spec_l1Read.j0, if_pos rfl]
    | false =>
      refine ⟨v, fun k hk => ?_⟩
      obtain ⟨k, rfl⟩ : ∃ m, k = m + 1 := ⟨k - 1, by omega⟩
      rw [spec_l1Read.j0, if_neg (by decide)]
      exact hv k (by omega)
  cases h1 : inRange (x.size : Int) 1 6 with
  | false =>
    obtain ⟨u, hu⟩ := hj true
    refine ⟨u, fun k hk => ?_⟩
    unfold spec_l1Read.f
    rw [l1In_f, h1, Option.bind_some, if_neg (by decide)]
    exact hu k hk
  | true =>
    have hpos : 1 ≤ (x.size : Int) ∧ (x.size : Int) ≤ 6 := by unfold inRange at h1; simpa using h1
    by_cases h48 : bt x 0 = 48
    · obtain ⟨u, hu⟩ := hj (decide ((x.size : Int) > 1))
      refine ⟨u, fun k hk => ?_⟩
      unfold spec_l1Read.f
      rw [l1In_f, h1, Option.bind_some, if_pos rfl, if_pos (by omega), if_pos h48]
      exact hu k hk
    · obtain ⟨u, hu⟩ := hj false
      refine ⟨u, fun k hk => ?_⟩
      unfold spec_l1Read.f
      rw [l1In_f, h1, Option.bind_some, if_pos rfl, if_pos (by omega), if_neg h48]
      exact hu k hk
theorem join_sizes (c : UInt8) : ∀ P : List (List UInt8), P.length ≤ (Lib.join P [c]).length + 1 ∧ ∀ p ∈ P, p.length ≤ (Lib.join P [c]).length
  | [] => ⟨by simp, fun p hp => by simp at hp⟩
  | [x] => ⟨by simp, fun p hp => by rw [List.mem_singleton] at hp; rw [hp, Lib.join_one]; exact Nat.le_refl _⟩
  | x :: y :: r => by
    obtain ⟨h1, h2⟩ := join_sizes c (y :: r)
    rw [join_two]
    simp only [List.length_append, List.length_cons] at h1 h2 ⊢
    refine ⟨by omega, fun p hp => ?_⟩
    rcases List.mem_cons.mp hp with rfl | hp
    · omega
    · have := h2 p hp; omega
theorem pieces_sizes {c : UInt8} {s : ByteArray} {P : List ByteArray} (h : Pieces c s.data.toList (P.map (fun x : ByteArray => x.data.toList))) (hs : s.size ≤ 100) : P.length ≤ 101 ∧ ∀ p ∈ P, p.size ≤ 100 := by
  obtain ⟨h1, h2⟩ := join_sizes c (P.map (fun x : ByteArray => x.data.toList))
  rw [h.2.2] at h1 h2
  have hsz := size_data s
  rw [List.length_map] at h1
  refine ⟨by omega, fun p hp => ?_⟩
  have := h2 p.data.toList (List.mem_map_of_mem hp)
  have := size_data p
  omega
theorem flat_len (Q : List ByteArray) (h : ∀ q ∈ Q, q.size ≤ 100) : (Q.flatMap (fun q => mr q.data.toList)).length ≤ 100 * Q.length := by
  induction Q with
  | nil => simp
  | cons q t ih =>
    have h1 := ih (fun x hx => h x (List.mem_cons_of_mem _ hx))
    have h2 := h q (by simp)
    have h3 := size_data q
    rw [List.flatMap_cons, List.length_append, List.length_cons]
    have : (mr q.data.toList).length = q.data.toList.length := List.length_map _
    omega
/-- The reference's answer: bad, or labels whose text this is. -/
theorem spec_any (s : ByteArray) (hs : s.size ≤ 1048576) : ∃ g : Res, (∃ K, ∀ k, K ≤ k → spec_meParse.f k s = some g) ∧ (g = bad ∨ ∃ (n : Nat) (l : List Int), Valid n l ∧ T n l = s) := by
  obtain ⟨P, hP, hsp⟩ := split_f 58 s (by omega)
  have h58 : ((58 : UInt8).toNat : Int) = 58 := rfl
  rw [h58] at hsp
  by_cases h100 : (s.size : Int) > 100
  · refine ⟨bad, ⟨s.size + 3, fun k hk => ?_⟩, .inl rfl⟩
    obtain ⟨k, rfl⟩ : ∃ m, k = m + 1 := ⟨k - 1, by omega⟩
    unfold spec_meParse.f
    rw [hsp _ (by omega), Option.bind_some, if_pos h100, spec_meParse.j0, if_pos rfl]
    rfl
  · obtain ⟨hPl, hPs⟩ := pieces_sizes hP (by omega)
    by_cases h2 : (P.length : Int) = 2
    · obtain ⟨p0, p1, rfl⟩ : ∃ p0 p1, P = [p0, p1] := by
        match P, h2 with
        | [a, b], _ => exact ⟨a, b, rfl⟩
        | [], h => simp at h
        | [_], h => simp at h
        | _ :: _ :: _ :: _, h => simp at h; omega
      have e0 : rdOf ByteArray.empty [p0, p1] 0 = p0 := rfl
      have e1 : rdOf ByteArray.empty [p0, p1] 1 = p1 := rfl
      have z0 := hPs p0 (by simp)
      have z1 := hPs p1 (by simp)
      obtain ⟨v, hv⟩ := read_some p0 (by omega)
      cases hside : inRange v 1 8 with
      | false =>
        refine ⟨bad, ⟨s.size + 200, fun k hk => ?_⟩, .inl rfl⟩
        obtain ⟨k, rfl⟩ : ∃ m, k = m + 1 := ⟨k - 1, by omega⟩
        unfold spec_meParse.f
        rw [hsp _ (by omega), Option.bind_some, if_neg h100, if_pos h2, if_pos (by omega), e0, hv _ (by omega), Option.bind_some, meSide_f, hside, Option.bind_some, spec_meParse.j0, if_pos (show (!false) = true from rfl)]
        rfl
      | true =>
        obtain ⟨Q, hQ, hsq⟩ := split_f 47 p1 (by omega)
        have h47 : ((47 : UInt8).toNat : Int) = 47 := rfl
        rw [h47] at hsq
        obtain ⟨hQl, hQs⟩ := pieces_sizes hQ z1
        have hfl := flat_len Q hQs
        obtain ⟨g, hg1, hg2, _⟩ := fin_f s v (Q.flatMap (fun q => mr q.data.toList)) (by omega)
        have hl0 := rows_l0 s v Q (by omega) hQs _ (by omega) g _ hg1 Q.length 0
        refine ⟨g, ⟨100000, fun k hk => ?_⟩, ?_⟩
        · obtain ⟨k, rfl⟩ : ∃ m, k = m + 1 := ⟨k - 1, by omega⟩
          unfold spec_meParse.f
          rw [hsp _ (by omega), Option.bind_some, if_neg h100, if_pos h2, if_pos (by omega), e0, hv _ (by omega), Option.bind_some, meSide_f, hside, Option.bind_some, spec_meParse.j0, if_neg (by decide), if_pos (by omega), e0, hv _ (by omega), Option.bind_some, if_pos (by omega), e1, hsq _ (by omega), Option.bind_some]
          exact hl0 k [] (by omega) (by rw [List.drop_zero, List.nil_append]) (by omega)
        · rcases hg2 with h | ⟨n, _, hv2, ht, _⟩
          · exact .inl h
          · exact .inr ⟨n, _, hv2, ht⟩
    · refine ⟨bad, ⟨s.size + 3, fun k hk => ?_⟩, .inl rfl⟩
      obtain ⟨k, rfl⟩ : ∃ m, k = m + 1 := ⟨k - 1, by omega⟩
      unfold spec_meParse.f
      rw [hsp _ (by omega), Option.bind_some, if_neg h100, if_neg h2, spec_meParse.j0, if_pos rfl]
      rfl
theorem rdv_dg (x : Int) (h : 0 ≤ x ∧ x ≤ 2) : rdv (dg x) = x ∧ dg x ≠ 47 ∧ dg x ≠ 58 ∧ dig [dg x] = [x] := by
  have h3 : x = 0 ∨ x = 1 ∨ x = 2 := by omega
  rcases h3 with rfl | rfl | rfl
  · exact ⟨by decide +kernel, by decide +kernel, by decide +kernel, by decide +kernel⟩
  · exact ⟨by decide +kernel, by decide +kernel, by decide +kernel, by decide +kernel⟩
  · exact ⟨by decide +kernel, by decide +kernel, by decide +kernel, by decide +kernel⟩
theorem head_dg (n : Nat) (h1 : 1 ≤ n) (h8 : n ≤ 8) : rdv (dg (n : Int)) = n ∧ dg (n : Int) ≠ 58 ∧ Lib.atoiAll [dg (n : Int)] = .ok (n : Int) := by
  have hn : n = 1 ∨ n = 2 ∨ n = 3 ∨ n = 4 ∨ n = 5 ∨ n = 6 ∨ n = 7 ∨ n = 8 := by omega
  rcases hn with rfl | rfl | rfl | rfl | rfl | rfl | rfl | rfl
  all_goals exact ⟨by decide +kernel, by decide +kernel, by kernel_rfl⟩
theorem blocks (l : List Int) : ∀ m : Nat, (List.range m).flatMap (fun j => (l.drop (tri j)).take (j + 1)) = l.take (tri m)
  | 0 => by simp [tri]
  | m + 1 => by
    rw [List.range_succ, List.flatMap_append, blocks l m, List.flatMap_cons, List.flatMap_nil, List.append_nil]
    show l.take (tri m) ++ (l.drop (tri m)).take (m + 1) = l.take (tri m + (m + 1))
    exact (List.take_add).symm
section
variable {n : Nat} {l : List Int}
theorem rowM_mem (h : Valid n l) (j : Nat) (b : UInt8) (hb : b ∈ rowM l j) : ∃ x, 0 ≤ x ∧ x ≤ 2 ∧ b = dg x := by
  unfold rowM at hb
  obtain ⟨x, hx, rfl⟩ := List.mem_map.mp hb
  have := h.2.2.2 x (List.mem_of_mem_drop (List.mem_of_mem_take hx))
  exact ⟨x, this.1, this.2, rfl⟩
theorem specT_pieces (h : Valid n l) : Pieces 47 (specT l (n + 1)) ((List.range (n + 1)).map (rowM l)) := by
  refine ⟨by simp, fun p hp h47 => ?_, rfl⟩
  obtain ⟨j, _, rfl⟩ := List.mem_map.mp hp
  obtain ⟨x, x0, x2, e⟩ := rowM_mem h j 47 h47
  exact (rdv_dg x ⟨x0, x2⟩).2.1 e.symm
theorem join_mem (c b : UInt8) : ∀ P : List (List UInt8), b ∈ Lib.join P [c] → b = c ∨ ∃ p ∈ P, b ∈ p
  | [], h => by simp [Lib.join_nil] at h
  | [x], h => by rw [Lib.join_one] at h; exact .inr ⟨x, by simp, h⟩
  | x :: y :: r, h => by
    rw [join_two, List.mem_append, List.mem_cons] at h
    rcases h with h | h | h
    · exact .inr ⟨x, by simp, h⟩
    · exact .inl h
    · rcases join_mem c b (y :: r) h with h | ⟨p, hp, hb⟩
      · exact .inl h
      · exact .inr ⟨p, List.mem_cons_of_mem _ hp, hb⟩
theorem specT_free (h : Valid n l) : (58 : UInt8) ∉ specT l (n + 1) := by
  intro hm
  rcases join_mem 47 58 _ hm with h2 | ⟨p, hp, hb⟩
  · exact absurd h2 (by decide)
  · obtain ⟨j, _, rfl⟩ := List.mem_map.mp hp
    obtain ⟨x, x0, x2, e⟩ := rowM_mem h j 58 hb
    exact (rdv_dg x ⟨x0, x2⟩).2.2.1 e.symm
theorem T_data (n : Nat) (l : List Int) : (T n l).data.toList = [dg (n : Int)] ++ 58 :: specT l (n + 1) := by simp [T, B]
theorem map_dg_rdv (xs : List Int) (h : ∀ x ∈ xs, 0 ≤ x ∧ x ≤ 2) : (xs.map dg).map rdv = xs := by
  rw [List.map_map]
  exact (List.map_congr_left (fun x hx => (rdv_dg x (h x hx)).1)).trans (List.map_id _)
theorem rows_rdv (h : Valid n l) : ((List.range (n + 1)).map (rowM l)).flatMap mr = l := by
  have hb := blocks l (n + 1)
  rw [List.take_of_length_le (by rw [h.2.2.1]; exact Nat.le_refl _)] at hb
  rw [List.flatMap_map]
  have : ∀ j, mr (rowM l j) = (l.drop (tri j)).take (j + 1) := fun j => map_dg_rdv _ (fun x hx => h.2.2.2 x (List.mem_of_mem_drop (List.mem_of_mem_take hx)))
  rw [show (fun j => mr (rowM l j)) = fun j => (l.drop (tri j)).take (j + 1) from funext this]
  exact hb
theorem dig_dg : ∀ xs : List Int, (∀ x ∈ xs, 0 ≤ x ∧ x ≤ 2) → dig (xs.map dg) = xs
  | [], _ => rfl
  | x :: t, h => by
    have e : (x :: t).map dg = [dg x] ++ t.map dg := rfl
    rw [e, dig_append, (rdv_dg x (h x (by simp))).2.2.2, dig_dg t (fun y hy => h y (List.mem_cons_of_mem _ hy))]
    rfl
theorem dig_specT (h : Valid n l) : dig (specT l (n + 1)) = l := by
  have hb := blocks l (n + 1)
  rw [List.take_of_length_le (by rw [h.2.2.1]; exact Nat.le_refl _)] at hb
  unfold specT
  rw [dig_join 47 (by decide), List.flatMap_map]
  have : ∀ j, dig (rowM l j) = (l.drop (tri j)).take (j + 1) := fun j => dig_dg _ (fun x hx => h.2.2.2 x (List.mem_of_mem_drop (List.mem_of_mem_take hx)))
  rw [show (fun j => dig (rowM l j)) = fun j => (l.drop (tri j)).take (j + 1) from funext this]
  exact hb
theorem T_size (h : Valid n l) : (T n l).size ≤ 100 := by
  have hl := Go.Proofs.YtmfocekebenniaaDoor.Om.specT_succ l n
  have h8 := h.2.1
  have : (T n l).size = (specT l (n + 1)).length + 2 := by
    rw [← size_data, T_data]; simp
  have hs : (specT l (n + 1)).length ≤ 98 := by
    have hb : ∀ m : Nat, (specT l m).length ≤ tri m + m := by
      intro m
      induction m with
      | zero => exact Nat.zero_le _
      | succ m ih =>
        have hr : (rowM l m).length ≤ m + 1 := by unfold rowM; rw [List.length_map, List.length_take]; omega
        rw [Go.Proofs.YtmfocekebenniaaDoor.Om.specT_succ, List.length_append, List.length_append]
        show _ ≤ tri m + (m + 1) + (m + 1)
        split
        · rw [List.length_nil]; omega
        · rw [List.length_singleton]; omega
    have h1 := hb (n + 1)
    have h2 := tri_mono (a := n + 1) (b := 9) (by omega)
    have h3 : tri 9 = 45 := rfl
    omega
  omega
theorem map_pieces (P : List ByteArray) (X : List (List UInt8)) (h : P.map (fun x : ByteArray => x.data.toList) = X) : P = X.map B := by
  rw [← h, List.map_map]
  have : ∀ x ∈ P, (B ∘ fun x : ByteArray => x.data.toList) x = x := fun x _ => ByteArray.ext rfl
  exact ((List.map_congr_left this).trans (List.map_id _)).symm
/-- The reference at the text of labels. -/
theorem spec_good (h : Valid n l) : ∃ K, ∀ k, K ≤ k → spec_meParse.f k (T n l) = some ((n : Int), l, true) := by
  have hT := T_size h
  obtain ⟨hh1, hh2, hh3⟩ := head_dg n h.1 h.2.1
  obtain ⟨P, hP, hsp⟩ := split_f 58 (T n l) (by omega)
  have h58 : ((58 : UInt8).toNat : Int) = 58 := rfl
  rw [h58] at hsp
  have hP2 : Pieces 58 (T n l).data.toList [[dg (n : Int)], specT l (n + 1)] := by
    rw [T_data]
    exact Pieces.cons (fun hm => hh2 (List.mem_singleton.mp hm).symm) (Pieces.one (specT_free h))
  have hPe := map_pieces P _ (Pieces.unique hP hP2)
  have hPe2 : P = [B [dg (n : Int)], B (specT l (n + 1))] := hPe
  subst hPe2
  obtain ⟨hPl, hPs⟩ := pieces_sizes hP hT
  have z1 := hPs (B (specT l (n + 1))) (by simp)
  obtain ⟨Q, hQ, hsq⟩ := split_f 47 (B (specT l (n + 1))) (by omega)
  have h47 : ((47 : UInt8).toNat : Int) = 47 := rfl
  rw [h47] at hsq
  obtain ⟨hQl, hQs⟩ := pieces_sizes hQ z1
  have hdat : (B (specT l (n + 1))).data.toList = specT l (n + 1) := rfl
  have hQm : Q.map (fun x : ByteArray => x.data.toList) = (List.range (n + 1)).map (rowM l) := Pieces.unique hQ (by rw [hdat]; exact specT_pieces h)
  have hacc : Q.flatMap (fun q => mr q.data.toList) = l := by
    have e : Q.flatMap (fun q => mr q.data.toList) = (Q.map (fun x : ByteArray => x.data.toList)).flatMap mr := by rw [List.flatMap_map]
    rw [e, hQm, rows_rdv h]
  have hfl := flat_len Q hQs
  rw [hacc] at hfl
  obtain ⟨g, hg1, _, hg3⟩ := fin_f (T n l) (n : Int) l (by omega)
  have hge := hg3 n rfl h rfl
  subst hge
  have hl0 := rows_l0 (T n l) (n : Int) Q (by omega) hQs l (by omega) _ _ hg1 Q.length 0
  have hr : ∀ k, 4 ≤ k → spec_l1Read.f k (B [dg (n : Int)]) = some (n : Int) := fun k hk => by rw [read_one (B [dg (n : Int)]) (dg (n : Int)) rfl k hk, hh1]
  have hside : inRange (n : Int) 1 8 = true := by have h1 := h.1; have h2 := h.2.1; unfold inRange; simp; omega
  have e0 : rdOf ByteArray.empty [B [dg (n : Int)], B (specT l (n + 1))] 0 = B [dg (n : Int)] := rfl
  have e1 : rdOf ByteArray.empty [B [dg (n : Int)], B (specT l (n + 1))] 1 = B (specT l (n + 1)) := rfl
  refine ⟨100000, fun k hk => ?_⟩
  obtain ⟨k, rfl⟩ : ∃ m, k = m + 1 := ⟨k - 1, by omega⟩
  unfold spec_meParse.f
  rw [hsp _ (by omega), Option.bind_some, if_neg (by omega), if_pos (by rfl), if_pos (by simp), e0, hr _ (by omega), Option.bind_some, meSide_f, hside, Option.bind_some, spec_meParse.j0, if_neg (by decide), if_pos (by simp), e0, hr _ (by omega), Option.bind_some, if_pos (by simp), e1, hsq _ (by omega), Option.bind_some]
  exact hl0 k [] (by omega) (by rw [List.drop_zero, List.nil_append, hacc]) (by omega)
theorem cut_T (h : Valid n l) : cutAt (T n l) = (B [dg (n : Int)], B (specT l (n + 1))) := by
  obtain ⟨hh1, hh2, hh3⟩ := head_dg n h.1 h.2.1
  have hi : Lib.indexByte (T n l).data.toList 58 = 1 := by
    rw [T_data]
    simp [Lib.indexByte, hh2]
  have hsz : (T n l).size = (T n l).data.toList.length := (size_data _).symm
  unfold cutAt
  rw [if_pos (by rw [hi]; decide), hi]
  refine Prod.ext ?_ ?_
  · apply ByteArray.ext
    apply Array.toList_inj.mp
    show ((T n l).extract 0 1).data.toList = _
    rw [extract_data, T_data]
    rfl
  · apply ByteArray.ext
    apply Array.toList_inj.mp
    show ((T n l).extract 2 (T n l).size).data.toList = _
    rw [extract_data, hsz, List.take_length, T_data]
    rfl
end
theorem numOf_of {s : ByteArray} {v : Int} (h : Lib.atoiAll s.data.toList = .ok v) : numOf s = some v := by
  unfold numOf
  rw [h]
theorem B_list (x : List UInt8) : (B x).data.toList = x := rfl
theorem numOf_B {x : List UInt8} {v : Int} (h : Lib.atoiAll x = .ok v) : numOf (B x) = some v := numOf_of ((congrArg Lib.atoiAll (B_list x)).trans h)
theorem impl_true {k : Nat} {s a b t : ByteArray} {v : Int} {d : List Int} (hs : s.size ≤ 2097152) (hc : cutAt s = (a, b)) (hn : numOf a = some v) (hd : impl_digitsOf.f k b 50 = some d) (h3 : impl_areLabels.f v d = some true) (ht : impl_labelsText.f v d = some t) (e : t = s) : impl_ParseLabels.f k s = some (v, d, true) := by
  unfold impl_ParseLabels.f
  rw [if_pos hs, hc]
  show ((impl_digitsOf.f k b 50).bind fun l => match numOf a with
    | some v => (impl_areLabels.f v l).bind fun b => if b = true then (impl_labelsText.f v l).bind fun t => (if t = s then some (v, l, true) else some (0, ([] : List Int), false)) else some (0, ([] : List Int), false)
    | none => some (0, ([] : List Int), false)) = _
  rw [hd, Option.bind_some, hn]
  show ((impl_areLabels.f v d).bind fun b => if b = true then (impl_labelsText.f v d).bind fun t => (if t = s then some (v, d, true) else some (0, ([] : List Int), false)) else some (0, ([] : List Int), false)) = _
  rw [h3, Option.bind_some, if_pos rfl, ht, Option.bind_some, if_pos e]
section
variable {n : Nat} {l : List Int}
/-- The program at the text of labels. -/
theorem impl_good (h : Valid n l) : ∃ K, ∀ k, K ≤ k → impl_ParseLabels.f k (T n l) = some ((n : Int), l, true) := by
  have hT := T_size h
  obtain ⟨hh1, hh2, hh3⟩ := head_dg n h.1 h.2.1
  obtain ⟨b, _, h2, _, h4⟩ := labels_v (n : Int) l (by have := h.2.2.1; have h5 := tri_mono (a := n + 1) (b := 9) (by have := h.2.1; omega); have h6 : tri 9 = 45 := rfl; omega)
  have hb := h4 n rfl h
  subst hb
  have hnum : numOf (B [dg (n : Int)]) = some (n : Int) := numOf_B hh3
  have hsR : (B (specT l (n + 1))).size ≤ 100 := by
    have : (T n l).size = (B (specT l (n + 1))).size + 2 := by
      rw [← size_data, T_data, ← size_data]; simp [B]
    omega
  generalize hX : specT l (n + 1) = X at *
  have hc := cut_T h
  rw [hX] at hc
  have hdX : dig X = l := by rw [← hX]; exact dig_specT h
  refine ⟨(B X).size + 1000, fun k hk => ?_⟩
  have hd := digits_f (B X) (by omega) k (by omega)
  have hBX : (B X).data.toList = X := rfl
  rw [hBX, hdX] at hd
  exact impl_true (by omega) hc hnum hd h2 (text_T h).2 rfl
end
/-- The program's answer: bad, or labels whose text this is. -/
theorem impl_any (s : ByteArray) (hs : s.size ≤ 1048576) : ∃ g : Res, (∃ K, ∀ k, K ≤ k → impl_ParseLabels.f k s = some g) ∧ (g = bad ∨ ∃ (n : Nat) (l : List Int), Valid n l ∧ T n l = s) := by
  have h2 : (cutAt s).2.size ≤ 2097152 := by
    unfold cutAt
    split
    · show (s.extract _ _).size ≤ _
      rw [ByteArray.size_extract]; omega
    · show (0 : Nat) ≤ _
      omega
  have hd := dig_len (cutAt s).2.data.toList
  have hsz := size_data (cutAt s).2
  cases hn : numOf (cutAt s).1 with
  | none =>
    refine ⟨bad, ⟨(cutAt s).2.size + 1, fun k hk => ?_⟩, .inl rfl⟩
    unfold impl_ParseLabels.f
    rw [if_pos (by omega), digits_f _ h2 k (by omega), Option.bind_some]
    simp only [hn]
    rfl
  | some v =>
    obtain ⟨b, _, h3, h4, _⟩ := labels_v v (dig (cutAt s).2.data.toList) (by omega)
    cases b with
    | false =>
      refine ⟨bad, ⟨(cutAt s).2.size + 1, fun k hk => ?_⟩, .inl rfl⟩
      unfold impl_ParseLabels.f
      rw [if_pos (by omega), digits_f _ h2 k (by omega), Option.bind_some]
      simp only [hn]
      rw [h3]
      rfl
    | true =>
      obtain ⟨n, rfl, hv⟩ := h4 rfl
      by_cases ht : T n (dig (cutAt s).2.data.toList) = s
      · refine ⟨((n : Int), dig (cutAt s).2.data.toList, true), ⟨(cutAt s).2.size + 1, fun k hk => ?_⟩, .inr ⟨n, _, hv, ht⟩⟩
        unfold impl_ParseLabels.f
        rw [if_pos (by omega), digits_f _ h2 k (by omega), Option.bind_some]
        simp only [hn]
        rw [h3, Option.bind_some, if_pos rfl, (text_T hv).2, Option.bind_some, if_pos ht]
      · refine ⟨bad, ⟨(cutAt s).2.size + 1, fun k hk => ?_⟩, .inl rfl⟩
        unfold impl_ParseLabels.f
        rw [if_pos (by omega), digits_f _ h2 k (by omega), Option.bind_some]
        simp only [hn]
        rw [h3, Option.bind_some, if_pos rfl, (text_T hv).2, Option.bind_some, if_neg ht]
        rfl
theorem same (s : ByteArray) (hs : s.size ≤ 1048576) : ∃ (K : Nat) (g : Res), g.2.1.length ≤ 1048576 ∧ ∀ k, K ≤ k → spec_ParseLabels.f k s = some g ∧ impl_ParseLabels.f k s = some g := by
  have hsp : ∀ (k : Nat) (g : Res), spec_meParse.f k s = some g → spec_ParseLabels.f k s = some g := fun k g h => by unfold spec_ParseLabels.f; rw [h]; rfl
  by_cases hv : ∃ (n : Nat) (l : List Int), Valid n l ∧ T n l = s
  · obtain ⟨n, l, hv, rfl⟩ := hv
    obtain ⟨K1, h1⟩ := spec_good hv
    obtain ⟨K2, h2⟩ := impl_good hv
    refine ⟨K1 + K2, ((n : Int), l, true), ?_, fun k hk => ⟨hsp _ _ (h1 k (by omega)), h2 k (by omega)⟩⟩
    show l.length ≤ _
    have := hv.2.2.1
    have h5 := tri_mono (a := n + 1) (b := 9) (by have := hv.2.1; omega)
    have h6 : tri 9 = 45 := rfl
    omega
  · obtain ⟨g1, ⟨K1, h1⟩, k1⟩ := spec_any s hs
    obtain ⟨g2, ⟨K2, h2⟩, k2⟩ := impl_any s hs
    have e1 : g1 = bad := by rcases k1 with h | h; exact h; exact absurd h hv
    have e2 : g2 = bad := by rcases k2 with h | h; exact h; exact absurd h hv
    subst e1
    subst e2
    exact ⟨K1 + K2, bad, by simp [bad], fun k hk => ⟨hsp _ _ (h1 k (by omega)), h2 k (by omega)⟩⟩
end Go.Proofs.YtmfocekebenniaaDoor.Ok
