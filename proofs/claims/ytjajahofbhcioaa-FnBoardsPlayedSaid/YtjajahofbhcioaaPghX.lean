/- Plain: boards with players; who has won, as both the program and the reference see it; who wins by playing well, by the reference. Plain: who wins by playing well, by the program with its map of known answers: the same as by the reference. Plain: the program's and the reference's WinsMoving and FirstWinningMove return the same; for all ints, lists shorter than 2^40. -/
import Derived.Test.YtjajahofbhcioaaPuAx
import Derived.Test.YtjajahofbhcioaaKb
import Derived.Test.YtjajahofbhcioaaQx6
import Derived.Test.YtjajahofbhcioaaKc
import Derived.Maps.OwnSet
import Derived.Test.YtjajahofbhcioaaKe
import Derived.Test.YtjajahofbhcioaaQx2
import Derived.Test.YtjajahofbhcioaaQx7
namespace Go.Proofs.Ytjajahofbhcioaa.Pbo
open Go.RowKit Go.Proofs.Ytjajahofbhcioaa.Q Go.Proofs.Ytjajahofbhcioaa.Given Go.Proofs.Ytjajahofbhcioaa.Hg Go.Proofs.Ytjajahofbhcioaa.Pa Go.Proofs.Ytjajahofbhcioaa.Pq Go.Proofs.Ytjajahofbhcioaa.Pr Go.Proofs.Ytjajahofbhcioaa.Pw Go.Proofs.Ytjajahofbhcioaa.Pm Go.Proofs.Ytjajahofbhcioaa.Ph Go.Proofs.Ytjajahofbhcioaa.Pu Go.Proofs.YtjajahofbhcioaaW.PrintWords Go.Proofs.YtjajahofbhcioaaW.PrintLast
set_option linter.unusedVariables false
set_option linter.unusedSimpArgs false

/-- A board with its player. -/
structure Bo (a c : Int) (l : List Int) (p : Int) (r q : Nat) : Prop where
  hs : hshape a c = true
  hl : (l.length : Int) = wrap64 (a * c)
  hv : ∀ x ∈ l, 0 ≤ x ∧ x ≤ 2
  hp : p = 1 ∨ p = 2
  ea : a = (r : Int)
  ec : c = (q : Int)
  r1 : 1 ≤ r
  q1 : 1 ≤ q
  m30 : r * q ≤ 30
  len : l.length = r * q
theorem w3 {p : Int} (hp : p = 1 ∨ p = 2) : wrap64 (3 - p) = 3 - p := by rcases hp with rfl | rfl <;> (unfold wrap64; omega)
section
variable {a c : Int} {l : List Int} {p : Int} {r q : Nat}
theorem Bo.isBoard (h : Bo a c l p r q) : impl_isBoard.f a c l = some true := by
  have h1 : (l.any fun x => !(inRange x 0 2)) = false := by
    rw [List.any_eq_false]
    intro x hx
    have := h.hv x hx
    unfold inRange
    simp [this.1, this.2]
  unfold impl_isBoard.f
  rw [isShape_f, h.hs, Option.bind_some, h.hl, h1]
  simp
theorem Bo.inr (h : Bo a c l p r q) : inRange p 1 2 = true := by
  rcases h.hp with rfl | rfl <;> decide
theorem Bo.other (h : Bo a c l p r q) : Bo a c l (3 - p) r q := { h with hp := by rcases h.hp with rfl | rfl; exact .inr (by decide); exact .inl (by decide) }
theorem Bo.pl (h : Bo a c l p r q) {p' : Int} (hp : p' = 1 ∨ p' = 2) : Bo a c l p' r q := { h with hp := hp }
theorem Bo.not_both (h : Bo a c l p r q) {cc : Nat} (h1 : Cost r q l p cc) (h2 : Cost r q l (3 - p) 0) : False := by
  rcases h.hp with rfl | rfl
  · exact not_both2 h.q1 h1 h2
  · exact not_both1 h.q1 h2 h1
theorem Bo.set (h : Bo a c l p r q) (i : Nat) : Bo a c (l.set i p) p r q := { h with
  hl := by rw [List.length_set]; exact h.hl
  hv := by
    intro x hx
    rcases List.mem_or_eq_of_mem_set hx with hx | rfl
    · exact h.hv x hx
    · rcases h.hp with rfl | rfl <;> omega
  len := by rw [List.length_set]; exact h.len }
theorem Bo.p0 (h : Bo a c l p r q) : p ≠ 0 := by rcases h.hp with rfl | rfl <;> omega
theorem Bo.len30 (h : Bo a c l p r q) : l.length ≤ 30 := by rw [h.len]; exact h.m30
/-- Both needs are nothing just if there is a path that costs nothing. -/
theorem Bo.need0 (h : Bo a c l p r q) : ∃ (K : Nat) (v u : Int), (∀ k, K ≤ k → impl_need.f k a c l p = some v ∧ spec_hxNeed.f k a c l p = some u) ∧ (v = 0 ↔ Cost r q l p 0) ∧ (u = 0 ↔ Cost r q l p 0) := by
  obtain ⟨r', q', e1, e2, _, _, _, _, _, K, v, u, hK, hvu⟩ := needs h.hs h.hl h.hv h.hp
  obtain rfl : r' = r := by have := h.ea; omega
  obtain rfl : q' = q := by have := h.ec; omega
  refine ⟨K, v, u, hK, ?_⟩
  rcases hvu with ⟨e1, e2, n⟩ | ⟨cc, e1, e2, _, C, M⟩
  · exact ⟨⟨fun h => by omega, fun h => absurd h (n _)⟩, ⟨fun h => by omega, fun h => absurd h (n _)⟩⟩
  · have h0 : cc = 0 ↔ Cost r' q' l p 0 := ⟨fun h => h ▸ C, fun h => by have := M _ h; omega⟩
    exact ⟨⟨fun h => h0.mp (by omega), fun h => by have := h0.mpr h; omega⟩, ⟨fun h => h0.mp (by omega), fun h => by have := h0.mpr h; omega⟩⟩
open Classical in
/-- The player who has won. -/
noncomputable def winO (r q : Nat) (l : List Int) : Int := if Cost r q l 1 0 then 1 else if Cost r q l 2 0 then 2 else 0
theorem Bo.winO_iff (h : Bo a c l p r q) : (winO r q l = p ↔ Cost r q l p 0) ∧ (winO r q l = 3 - p ↔ Cost r q l (3 - p) 0) ∧ (winO r q l = 0 ∨ winO r q l = p ∨ winO r q l = 3 - p) := by
  have hn : ¬ (Cost r q l 1 0 ∧ Cost r q l 2 0) := fun hh => not_both2 h.q1 hh.1 hh.2
  unfold winO
  rcases h.hp with rfl | rfl
  · by_cases c1 : Cost r q l 1 0
    · rw [if_pos c1]
      have c2 : ¬ Cost r q l (3 - 1) 0 := fun h2 => hn ⟨c1, h2⟩
      exact ⟨⟨fun _ => c1, fun _ => rfl⟩, ⟨fun h => by omega, fun h => absurd h c2⟩, .inr (.inl rfl)⟩
    · rw [if_neg c1]
      by_cases c2 : Cost r q l 2 0
      · rw [if_pos c2]
        exact ⟨⟨fun h => by omega, fun h => absurd h c1⟩, ⟨fun _ => c2, fun _ => rfl⟩, .inr (.inr rfl)⟩
      · rw [if_neg c2]
        exact ⟨⟨fun h => by omega, fun h => absurd h c1⟩, ⟨fun h => by omega, fun h => absurd h c2⟩, .inl rfl⟩
  · by_cases c1 : Cost r q l 1 0
    · rw [if_pos c1]
      have c2 : ¬ Cost r q l 2 0 := fun h2 => hn ⟨c1, h2⟩
      exact ⟨⟨fun h => by omega, fun h => absurd h c2⟩, ⟨fun _ => c1, fun _ => rfl⟩, .inr (.inr rfl)⟩
    · rw [if_neg c1]
      by_cases c2 : Cost r q l 2 0
      · rw [if_pos c2]
        exact ⟨⟨fun _ => c2, fun _ => rfl⟩, ⟨fun h => by omega, fun h => absurd h c1⟩, .inr (.inl rfl)⟩
      · rw [if_neg c2]
        exact ⟨⟨fun h => by omega, fun h => absurd h c2⟩, ⟨fun h => by omega, fun h => absurd h c1⟩, .inl rfl⟩
theorem Bo.winner (h : Bo a c l p r q) : ∃ K, ∀ k, K ≤ k → impl_winner.f k a c l = some (winO r q l) := by
  obtain ⟨K1, v1, u1, hK1, h1, _⟩ := (h.pl (p' := 1) (.inl rfl)).need0
  obtain ⟨K2, v2, u2, hK2, h2, _⟩ := (h.pl (p' := 2) (.inr rfl)).need0
  refine ⟨K1 + K2 + 5, fun k hk => ?_⟩
  obtain ⟨k, rfl⟩ : ∃ m, k = m + 3 := ⟨k - 3, by omega⟩
  unfold impl_winner.f winO
  rw [impl_winner.l0, if_pos (by omega), (hK1 _ (by omega)).1, Option.bind_some]
  by_cases c1 : Cost r q l 1 0
  · rw [if_pos (h1.mpr c1), if_pos c1]
  · rw [if_neg (fun h => c1 (h1.mp h)), if_neg c1, show wrap64 (1 + 1) = 2 from by unfold wrap64; omega, impl_winner.l0, if_pos (by omega), (hK2 _ (by omega)).1, Option.bind_some]
    by_cases c2 : Cost r q l 2 0
    · rw [if_pos (h2.mpr c2), if_pos c2]
    · rw [if_neg (fun h => c2 (h2.mp h)), if_neg c2, show wrap64 (2 + 1) = 3 from by unfold wrap64; omega, impl_winner.l0, if_neg (by omega)]

/-- The least place from i on that is nobody's and with which the other player loses. -/
def M (f : List Int → Int → Bool) (l : List Int) (p : Int) : Nat → Nat → Int
  | 0, _ => -1
  | d + 1, i => if rd l (i : Nat) = 0 then (if f (l.set i p) (3 - p) = true then M f l p d (i + 1) else (i : Int)) else M f l p d (i + 1)
theorem M_ge (f : List Int → Int → Bool) (l : List Int) (p : Int) : ∀ d i : Nat, -1 ≤ M f l p d i ∧ M f l p d i < ((i + d : Nat) : Int) := by
  intro d
  induction d with
  | zero => intro i; exact ⟨by show (-1 : Int) ≤ -1; omega, by show (-1 : Int) < _; omega⟩
  | succ d ih =>
    intro i
    have := ih (i + 1)
    unfold M
    split
    · split
      · omega
      · omega
    · omega
theorem M_congr {f g : List Int → Int → Bool} {l : List Int} {p : Int} (h : ∀ i, i < l.length → rd l (i : Nat) = 0 → f (l.set i p) (3 - p) = g (l.set i p) (3 - p)) : ∀ d i : Nat, i + d = l.length → M f l p d i = M g l p d i := by
  intro d
  induction d with
  | zero => intro i _; rfl
  | succ d ih =>
    intro i hi
    have := ih (i + 1) (by omega)
    unfold M
    rw [this]
    by_cases h0 : rd l (i : Nat) = 0
    · rw [if_pos h0, if_pos h0, h i (by omega) h0]
    · rw [if_neg h0, if_neg h0]
noncomputable def stepW (r q : Nat) (f : List Int → Int → Bool) (l : List Int) (p : Int) : Bool := if winO r q l = 0 then decide (0 ≤ M f l p l.length 0) else decide (winO r q l = p)
noncomputable def W (r q : Nat) : Nat → List Int → Int → Bool
  | 0 => stepW r q (fun _ _ => true)
  | n + 1 => stepW r q (W r q n)
theorem wi {i : Nat} (h : i ≤ 100) : wrap64 ((i : Int) + 1) = ((i + 1 : Nat) : Int) := by unfold wrap64; omega
theorem s_loop (h : Bo a c l p r q) (f : List Int → Int → Bool) (hf : ∀ i, i < l.length → rd l (i : Nat) = 0 → ∃ K, ∀ k, K ≤ k → spec_hxWins.f k a c (l.set i p) (3 - p) = some (f (l.set i p) (3 - p))) :
    ∀ d i : Nat, i + d = l.length → ∃ K, ∀ k, K ≤ k → spec_hxMove.l0 k a c l p (i : Int) = some (M f l p d i) := by
  have h30 := h.len30
  intro d
  induction d with
  | zero =>
    intro i hi
    refine ⟨1, fun k hk => ?_⟩
    obtain ⟨k, rfl⟩ : ∃ m, k = m + 1 := ⟨k - 1, by omega⟩
    rw [spec_hxMove.l0, if_neg (by omega)]
    rfl
  | succ d ih =>
    intro i hi
    obtain ⟨K1, hK1⟩ := ih (i + 1) (by omega)
    have hil : i < l.length := by omega
    have hw := wi (i := i) (by omega)
    by_cases h0 : rd l (i : Nat) = 0
    · obtain ⟨K2, hK2⟩ := hf i hil h0
      refine ⟨K1 + K2 + 1, fun k hk => ?_⟩
      obtain ⟨k, rfl⟩ : ∃ m, k = m + 1 := ⟨k - 1, by omega⟩
      rw [spec_hxMove.l0, if_pos (by omega), if_pos ⟨by omega, by omega⟩, if_neg (by omega), Int.toNat_natCast, w3 h.hp, hK2 k (by omega), Option.bind_some, hw, hK1 k (by omega)]
      show _ = some (if rd l (i : Nat) = 0 then (if f (l.set i p) (3 - p) = true then M f l p d (i + 1) else (i : Int)) else M f l p d (i + 1))
      rw [if_pos h0]
      split <;> rfl
    · refine ⟨K1 + 1, fun k hk => ?_⟩
      obtain ⟨k, rfl⟩ : ∃ m, k = m + 1 := ⟨k - 1, by omega⟩
      have := rd_val h.hv (i : Int)
      rw [spec_hxMove.l0, if_pos (by omega), if_pos ⟨by omega, by omega⟩, if_pos (by omega), hw, hK1 k (by omega)]
      show _ = some (if rd l (i : Nat) = 0 then (if f (l.set i p) (3 - p) = true then M f l p d (i + 1) else (i : Int)) else M f l p d (i + 1))
      rw [if_neg h0]
theorem s_step (h : Bo a c l p r q) (f : List Int → Int → Bool) (hf : ∀ i, i < l.length → rd l (i : Nat) = 0 → ∃ K, ∀ k, K ≤ k → spec_hxWins.f k a c (l.set i p) (3 - p) = some (f (l.set i p) (3 - p))) :
    ∃ K, ∀ k, K ≤ k → spec_hxWins.f k a c l p = some (stepW r q f l p) := by
  obtain ⟨K1, v1, u1, hK1, _, h1⟩ := h.other.need0
  obtain ⟨K2, v2, u2, hK2, _, h2⟩ := h.need0
  obtain ⟨K3, hK3⟩ := s_loop h f hf l.length 0 (by omega)
  obtain ⟨o1, o2, o3⟩ := h.winO_iff
  have hp := h.hp
  refine ⟨K1 + K2 + K3 + 1, fun k hk => ?_⟩
  obtain ⟨k, rfl⟩ : ∃ m, k = m + 1 := ⟨k - 1, by omega⟩
  rw [spec_hxWins.f, w3 h.hp, (hK1 k (by omega)).2, Option.bind_some]
  unfold stepW
  by_cases c1 : u1 = 0
  · have e := o2.mpr (h1.mp c1)
    rw [if_pos c1, e, if_neg (by omega)]
    rw [decide_eq_false (by omega)]
  · rw [if_neg c1, (hK2 k (by omega)).2, Option.bind_some]
    by_cases c2 : u2 = 0
    · have e := o1.mpr (h2.mp c2)
      rw [if_pos c2, e, if_neg (by omega)]
      simp
    · have e : winO r q l = 0 := by
        rcases o3 with e | e | e
        · exact e
        · exact absurd (h2.mpr (o1.mp e)) c2
        · exact absurd (h1.mpr (o2.mp e)) c1
      rw [if_neg c2, if_pos e]
      have := hK3 k (by omega)
      rw [show ((0 : Nat) : Int) = 0 from rfl] at this
      rw [this]
      rfl
theorem count_set {i : Nat} (hi : i < l.length) (h0 : rd l (i : Nat) = 0) (hp : p ≠ 0) : (l.set i p).count 0 + 1 = l.count 0 := by
  have e : l[i] = 0 := by
    unfold rd at h0
    rw [List.getD_eq_getElem?_getD, Int.toNat_natCast, List.getElem?_eq_getElem hi] at h0
    exact h0
  have hm : (0 : Int) ∈ l := e ▸ List.getElem_mem hi
  have := List.count_pos_iff.mpr hm
  rw [List.count_set hi, e, beq_eq_false_iff_ne.2 hp]
  simp
  omega
theorem s_all (n : Nat) : ∀ (l : List Int) (p : Int), Bo a c l p r q → l.count 0 ≤ n → ∃ K, ∀ k, K ≤ k → spec_hxWins.f k a c l p = some (W r q n l p) := by
  induction n with
  | zero =>
    intro l p h hn
    refine s_step h (fun _ _ => true) (fun i hi h0 => ?_)
    have := count_set (p := p) hi h0 h.p0
    omega
  | succ n ih =>
    intro l p h hn
    refine s_step h (W r q n) (fun i hi h0 => ?_)
    have := count_set (p := p) hi h0 h.p0
    exact ih _ _ (h.set i).other (by omega)
/-- Who wins by playing well. -/
noncomputable def Wt (r q : Nat) (l : List Int) (p : Int) : Bool := W r q (l.count 0) l p
theorem W_eq {n : Nat} (h : Bo a c l p r q) (hn : l.count 0 ≤ n) : W r q n l p = Wt r q l p := by
  obtain ⟨K1, h1⟩ := s_all n l p h hn
  obtain ⟨K2, h2⟩ := s_all (l.count 0) l p h (Nat.le_refl _)
  exact Option.some.inj ((h1 (K1 + K2) (by omega)).symm.trans (h2 (K1 + K2) (by omega)))
theorem Bo.wins (h : Bo a c l p r q) : ∃ K, ∀ k, K ≤ k → spec_hxWins.f k a c l p = some (Wt r q l p) := s_all _ l p h (Nat.le_refl _)
theorem Bo.step (h : Bo a c l p r q) : Wt r q l p = stepW r q (Wt r q) l p := by
  obtain ⟨K1, h1⟩ := h.wins
  obtain ⟨K2, h2⟩ := s_step h (Wt r q) (fun i hi h0 => (h.set i).other.wins)
  exact Option.some.inj ((h1 (K1 + K2) (by omega)).symm.trans (h2 (K1 + K2) (by omega)))
theorem Bo.move (h : Bo a c l p r q) : ∃ K, ∀ k, K ≤ k → spec_hxMove.f k a c l p = some (M (Wt r q) l p l.length 0) := s_loop h (Wt r q) (fun i hi h0 => (h.set i).other.wins) l.length 0 (by omega)
end
end Go.Proofs.Ytjajahofbhcioaa.Pbo

namespace Go.Proofs.Ytjajahofbhcioaa.Pgi
open Go.RowKit Go.Proofs.Ytjajahofbhcioaa.Q Go.Proofs.Ytjajahofbhcioaa.Given Go.Proofs.Ytjajahofbhcioaa.Pbo Go.Proofs.Ytjajahofbhcioaa.Pu Go.Proofs.YtjajahofbhcioaaW.PrintWords Go.Proofs.YtjajahofbhcioaaW.PrintLast
set_option linter.unusedVariables false
set_option linter.unusedSimpArgs false

def digs (l : List Int) : ByteArray := strOfNums (l.map fun x => 48 + x)
theorem digs_size (l : List Int) : (digs l).size = l.length := by
  unfold digs strOfNums
  simp [ByteArray.size]
theorem digs_list (l : List Int) : (digs l).data.toList = l.map fun x => UInt8.ofNat (48 + x).toNat := by
  unfold digs strOfNums
  simp
theorem one_dig {x : Int} (h : 0 ≤ x ∧ x ≤ 2) : (wrap64 (48 + x)) % 256 = 48 + x := by unfold wrap64; omega
theorem wi {i : Nat} (h : i ≤ 100) : wrap64 ((i : Int) + 1) = ((i + 1 : Nat) : Int) := by unfold wrap64; omega
theorem small {n : Nat} (h : n ≤ 100) : n < 140737488355328 := by omega
theorem dig_l0 (l : List Int) (hv : ∀ x ∈ l, 0 ≤ x ∧ x ≤ 2) (hl : l.length ≤ 30) (d : Nat) : ∀ (i k : Nat), i + d = l.length → d < k → impl_digitsText.l0 k ((l.take i).map fun x => 48 + x) l (l.length : Int) (i : Int) = some (digs l) := by
  induction d with
  | zero =>
    intro i k hi hk
    obtain ⟨k, rfl⟩ : ∃ m, k = m + 1 := ⟨k - 1, by omega⟩
    rw [impl_digitsText.l0, if_neg (by omega), List.take_of_length_le (by omega)]
    rfl
  | succ d ih =>
    intro i k hi hk
    obtain ⟨k, rfl⟩ : ∃ m, k = m + 1 := ⟨k - 1, by omega⟩
    have hil : i < l.length := by omega
    have h1 := ih (i + 1) k (by omega) (by omega)
    have hln : (List.map (fun x => 48 + x) (List.take i l)).length ≤ 100 := by rw [List.length_map, List.length_take]; omega
    rw [impl_digitsText.l0, if_pos (by omega), if_pos (by omega), if_pos (by omega), if_pos (small hln), one_dig (rd_val hv _), wi (by omega)]
    have e : rd l (i : Nat) = l[i] := by unfold rd; rw [List.getD_eq_getElem?_getD, Int.toNat_natCast, List.getElem?_eq_getElem hil]; rfl
    rw [List.take_succ_eq_append_getElem hil, List.map_append] at h1
    rw [e]
    exact h1
theorem dig_f (l : List Int) (hv : ∀ x ∈ l, 0 ≤ x ∧ x ≤ 2) (hl : l.length ≤ 30) (k : Nat) (hk : 30 < k) : impl_digitsText.f k l = some (digs l) := by
  unfold impl_digitsText.f
  exact_mod_cast dig_l0 l hv hl l.length 0 k (by omega) (by omega)
/-- The key of a board with a player. -/
def key (l : List Int) (p : Int) : Lit := keyS (digs l ++ digs [p])
theorem key_is (l : List Int) (p : Int) : WideAt.IsKeyLit (key l p) := trivial
theorem u8_inj {x y : Int} (hx : 0 ≤ x ∧ x ≤ 2) (hy : 0 ≤ y ∧ y ≤ 2) (h : UInt8.ofNat (48 + x).toNat = UInt8.ofNat (48 + y).toNat) : x = y := by
  obtain rfl | rfl | rfl : x = 0 ∨ x = 1 ∨ x = 2 := by omega
  all_goals obtain rfl | rfl | rfl : y = 0 ∨ y = 1 ∨ y = 2 := by omega
  all_goals first | rfl | (revert h; decide)
theorem map_inj : ∀ (l l' : List Int), (∀ x ∈ l, 0 ≤ x ∧ x ≤ 2) → (∀ x ∈ l', 0 ≤ x ∧ x ≤ 2) → (l.map fun x => UInt8.ofNat (48 + x).toNat) = (l'.map fun x => UInt8.ofNat (48 + x).toNat) → l = l' := by
  intro l
  induction l with
  | nil => intro l' _ _ h; cases l' with
    | nil => rfl
    | cons y t => simp at h
  | cons x t ih =>
    intro l' h1 h2 h
    cases l' with
    | nil => simp at h
    | cons y t' =>
      simp only [List.map_cons, List.cons.injEq] at h
      rw [u8_inj (h1 x (by simp)) (h2 y (by simp)) h.1, ih t' (fun z hz => h1 z (by simp [hz])) (fun z hz => h2 z (by simp [hz])) h.2]
theorem key_inj {l l' : List Int} {p p' : Int} (h1 : ∀ x ∈ l, 0 ≤ x ∧ x ≤ 2) (h2 : ∀ x ∈ l', 0 ≤ x ∧ x ≤ 2) (h3 : 0 ≤ p ∧ p ≤ 2) (h4 : 0 ≤ p' ∧ p' ≤ 2) (h : key l p = key l' p') : l = l' ∧ p = p' := by
  unfold key keyS at h
  injection h with h
  rw [ByteArray.data_append, ByteArray.data_append, Array.toList_append, Array.toList_append, digs_list, digs_list, digs_list, digs_list] at h
  have e : (l ++ [p]).map (fun x => UInt8.ofNat (48 + x).toNat) = (l' ++ [p']).map (fun x => UInt8.ofNat (48 + x).toNat) := by
    rw [List.map_append, List.map_append]; exact h
  have := map_inj _ _ (fun x hx => by
    rcases List.mem_append.mp hx with hx | hx
    · exact h1 x hx
    · rw [List.mem_singleton.mp hx]; exact h3) (fun x hx => by
    rcases List.mem_append.mp hx with hx | hx
    · exact h2 x hx
    · rw [List.mem_singleton.mp hx]; exact h4) e
  have h5 := List.append_inj' this rfl
  exact ⟨h5.1, by simpa using h5.2⟩

section
variable {a c : Int} {r q : Nat}
/-- What is known is right. -/
def Inv (a c : Int) (r q : Nat) (D : DataW Unit) : Prop := Maps.Tidy D ∧ ∀ l p, Bo a c l p r q → Maps.has D (key l p) = true → getB D (key l p) = Wt r q l p
theorem inv_start : Inv a c r q (.map []) := ⟨Maps.tidy_empty, fun l p _ h => by simp [Maps.has] at h⟩
theorem Bo.p2 {l : List Int} {p : Int} (h : Bo a c l p r q) : 0 ≤ p ∧ p ≤ 2 := by rcases h.hp with rfl | rfl <;> omega
theorem inv_put {D : DataW Unit} {l : List Int} {p : Int} (hD : Inv a c r q D) (h : Bo a c l p r q) : Inv a c r q (D.put (key l p) (.lit (.bool (Wt r q l p)))) := by
  refine ⟨hD.1.put (key_is l p) _, fun l' p' h' hh => ?_⟩
  by_cases e : key l' p' = key l p
  · obtain ⟨rfl, rfl⟩ := key_inj h'.hv h.hv (Bo.p2 h') (Bo.p2 h) e
    unfold getB
    rw [Maps.atKey_put_same hD.1.isMap (key_is _ _)]
  · rw [Maps.has_put_other e] at hh
    unfold getB
    rw [Maps.atKey_put_other e]
    exact hD.2 l' p' h' hh
theorem put_size {D : DataW Unit} (hD : Inv a c r q D) (kl : Lit) (d : DataW Unit) : Maps.size (D.put kl d) ≤ Maps.size D + 1 := by
  rw [Maps.size_put hD.1]
  split <;> omega
def T : Nat → Nat
  | 0 => 1
  | n + 1 => 1 + (n + 1) * T n
theorem T9 : T 9 ≤ 1000000 := by decide
theorem T_mono : ∀ n : Nat, T n ≤ T (n + 1) := by
  intro n
  show T n ≤ 1 + (n + 1) * T n
  rw [Nat.add_mul]
  omega
theorem T_le {m n : Nat} (h : m ≤ n) : T m ≤ T n := by
  induction h with
  | refl => exact Nat.le_refl _
  | step _ ih => exact Nat.le_trans ih (T_mono _)

theorem i_loop {l : List Int} {p : Int} (h : Bo a c l p r q) (B : Nat) (hf : ∀ i, i < l.length → rd l (i : Nat) = 0 → ∀ D, Inv a c r q D → Maps.size D + B ≤ 2000000 → ∃ (K : Nat) (D' : DataW Unit), (∀ k, K ≤ k → impl_wins.f k a c D (l.set i p) (3 - p) = some (Wt r q (l.set i p) (3 - p), D')) ∧ Inv a c r q D' ∧ Maps.size D' ≤ Maps.size D + B) :
    ∀ (d i : Nat) (D : DataW Unit), i + d = l.length → Inv a c r q D → Maps.size D + (l.drop i).count 0 * B ≤ 2000000 → ∃ (K : Nat) (D' : DataW Unit), (∀ k, K ≤ k → impl_move.l0 k a c D l p (i : Int) = some (M (Wt r q) l p d i, D')) ∧ Inv a c r q D' ∧ Maps.size D' ≤ Maps.size D + (l.drop i).count 0 * B := by
  have h30 := h.len30
  intro d
  induction d with
  | zero =>
    intro i D hi hD hs
    refine ⟨1, D, fun k hk => ?_, hD, by omega⟩
    obtain ⟨k, rfl⟩ : ∃ m, k = m + 1 := ⟨k - 1, by omega⟩
    rw [impl_move.l0, if_neg (by omega)]
    rfl
  | succ d ih =>
    intro i D hi hD hs
    have hil : i < l.length := by omega
    have hw := wi (i := i) (by omega)
    have e : rd l (i : Nat) = l[i] := by unfold rd; rw [List.getD_eq_getElem?_getD, Int.toNat_natCast, List.getElem?_eq_getElem hil]; rfl
    have hdr : (l.drop i).count 0 = (l.drop (i + 1)).count 0 + (if rd l (i : Nat) = 0 then 1 else 0) := by
      rw [List.drop_eq_getElem_cons hil, List.count_cons, e]
      simp
    have hmv : M (Wt r q) l p (d + 1) i = if rd l (i : Nat) = 0 then (if Wt r q (l.set i p) (3 - p) = true then M (Wt r q) l p d (i + 1) else (i : Int)) else M (Wt r q) l p d (i + 1) := rfl
    by_cases h0 : rd l (i : Nat) = 0
    · rw [if_pos h0] at hdr hmv
      rw [hdr, Nat.add_mul, Nat.one_mul] at hs ⊢
      obtain ⟨K1, D1, h1, i1, s1⟩ := hf i hil h0 D hD (by omega)
      cases hwt : Wt r q (l.set i p) (3 - p) with
      | true =>
        rw [hwt, if_pos rfl] at hmv
        obtain ⟨K2, D2, h2, i2, s2⟩ := ih (i + 1) D1 (by omega) i1 (by omega)
        refine ⟨K1 + K2 + 1, D2, fun k hk => ?_, i2, by omega⟩
        obtain ⟨k, rfl⟩ : ∃ m, k = m + 1 := ⟨k - 1, by omega⟩
        rw [impl_move.l0, if_pos (by omega), if_pos ⟨by omega, by omega⟩, if_pos h0, Int.toNat_natCast, w3 h.hp, h1 k (by omega), Option.bind_some, if_pos hwt, hw, h2 k (by omega), hmv]
      | false =>
        rw [hwt, if_neg (by decide)] at hmv
        refine ⟨K1 + 1, D1, fun k hk => ?_, i1, by omega⟩
        obtain ⟨k, rfl⟩ : ∃ m, k = m + 1 := ⟨k - 1, by omega⟩
        rw [impl_move.l0, if_pos (by omega), if_pos ⟨by omega, by omega⟩, if_pos h0, Int.toNat_natCast, w3 h.hp, h1 k (by omega), Option.bind_some, if_neg (by simp [hwt]), hmv]
    · rw [if_neg h0] at hdr hmv
      rw [hdr, Nat.add_zero] at hs ⊢
      obtain ⟨K2, D2, h2, i2, s2⟩ := ih (i + 1) D (by omega) hD hs
      refine ⟨K2 + 1, D2, fun k hk => ?_, i2, s2⟩
      obtain ⟨k, rfl⟩ : ∃ m, k = m + 1 := ⟨k - 1, by omega⟩
      rw [impl_move.l0, if_pos (by omega), if_pos ⟨by omega, by omega⟩, if_neg h0, hw, h2 k (by omega), hmv]
theorem fin_ok {D : DataW Unit} {l : List Int} {p : Int} (h : Bo a c l p r q) (hD : Inv a c r q D) (hs : Maps.size D ≤ 2000000) : finB D (key l p) (Wt r q l p) = some (Wt r q l p, D.put (key l p) (.lit (.bool (Wt r q l p)))) := by
  unfold finB
  rw [if_pos (Nat.lt_of_le_of_lt hs (by decide))]
theorem i_step {l : List Int} {p : Int} (h : Bo a c l p r q) (B : Nat) (hf : ∀ i, i < l.length → rd l (i : Nat) = 0 → ∀ D, Inv a c r q D → Maps.size D + B ≤ 2000000 → ∃ (K : Nat) (D' : DataW Unit), (∀ k, K ≤ k → impl_wins.f k a c D (l.set i p) (3 - p) = some (Wt r q (l.set i p) (3 - p), D')) ∧ Inv a c r q D' ∧ Maps.size D' ≤ Maps.size D + B) :
    ∀ D, Inv a c r q D → Maps.size D + (1 + l.count 0 * B) ≤ 2000000 → ∃ (K : Nat) (D' : DataW Unit), (∀ k, K ≤ k → impl_wins.f k a c D l p = some (Wt r q l p, D')) ∧ Inv a c r q D' ∧ Maps.size D' ≤ Maps.size D + (1 + l.count 0 * B) := by
  intro D hD hs
  have h30 := h.len30
  have hsz : (digs l).size + (digs [p]).size ≤ 1000 := by rw [digs_size, digs_size]; simp; omega
  have hd1 := dig_f l h.hv h30
  have hd2 := dig_f [p] (fun x hx => by rw [List.mem_singleton.mp hx]; exact Bo.p2 h) (by simp)
  cases hh : Maps.has D (key l p) with
  | true =>
    refine ⟨40, D, fun k hk => ?_, hD, by omega⟩
    obtain ⟨k, rfl⟩ : ∃ m, k = m + 1 := ⟨k - 1, by omega⟩
    rw [impl_wins.f, hd1 k (by omega), Option.bind_some, hd2 k (by omega), Option.bind_some, if_pos hsz]
    show (if Maps.has D (key l p) = true then some (getB D (key l p), D) else _) = _
    rw [if_pos hh, hD.2 l p h hh]
  | false =>
    obtain ⟨K1, hK1⟩ := h.winner
    have hst := h.step
    unfold stepW at hst
    by_cases ho : winO r q l = 0
    · rw [if_pos ho] at hst
      obtain ⟨K2, D2, h2, i2, s2⟩ := i_loop h B hf l.length 0 D (by omega) hD (by rw [List.drop_zero]; omega)
      rw [List.drop_zero] at s2
      refine ⟨40 + K1 + K2, D2.put (key l p) (.lit (.bool (Wt r q l p))), fun k hk => ?_, inv_put i2 h, ?_⟩
      · obtain ⟨k, rfl⟩ : ∃ m, k = m + 1 := ⟨k - 1, by omega⟩
        rw [impl_wins.f, hd1 k (by omega), Option.bind_some, hd2 k (by omega), Option.bind_some, if_pos hsz]
        show (if Maps.has D (key l p) = true then some (getB D (key l p), D) else _) = _
        have h3 := h2 k (by omega)
        rw [show ((0 : Nat) : Int) = 0 from rfl] at h3
        rw [hh, if_neg (by decide), hK1 k (by omega), Option.bind_some, if_pos ho, h3, Option.bind_some]
        show finB D2 (key l p) (decide (0 ≤ M (Wt r q) l p l.length 0)) = _
        rw [← hst, fin_ok h i2 (by omega)]
      · have := put_size i2 (key l p) (.lit (.bool (Wt r q l p)))
        omega
    · rw [if_neg ho] at hst
      refine ⟨40 + K1, D.put (key l p) (.lit (.bool (Wt r q l p))), fun k hk => ?_, inv_put hD h, ?_⟩
      · obtain ⟨k, rfl⟩ : ∃ m, k = m + 1 := ⟨k - 1, by omega⟩
        rw [impl_wins.f, hd1 k (by omega), Option.bind_some, hd2 k (by omega), Option.bind_some, if_pos hsz]
        show (if Maps.has D (key l p) = true then some (getB D (key l p), D) else _) = _
        rw [hh, if_neg (by decide), hK1 k (by omega), Option.bind_some, if_neg ho]
        have hb : (winO r q l == p) = Wt r q l p := by rw [hst]; rfl
        show finB D (key l p) (winO r q l == p) = _
        rw [hb, fin_ok h hD (by omega)]
      · have := put_size hD (key l p) (.lit (.bool (Wt r q l p)))
        omega
theorem i_all (n : Nat) (hn9 : n ≤ 9) : ∀ (l : List Int) (p : Int), Bo a c l p r q → l.count 0 ≤ n → ∀ D, Inv a c r q D → Maps.size D + T n ≤ 2000000 → ∃ (K : Nat) (D' : DataW Unit), (∀ k, K ≤ k → impl_wins.f k a c D l p = some (Wt r q l p, D')) ∧ Inv a c r q D' ∧ Maps.size D' ≤ Maps.size D + T n := by
  induction n with
  | zero =>
    intro l p h hn D hD hs
    have hs' : Maps.size D + 1 ≤ 2000000 := hs
    obtain ⟨K, D', h1, h2, h3⟩ := i_step h 0 (fun i hi h0 => by
      have := count_set (p := p) hi h0 h.p0
      omega) D hD (by omega)
    exact ⟨K, D', h1, h2, by show _ ≤ _ + 1; omega⟩
  | succ n ih =>
    intro l p h hn D hD hs
    have hT : T (n + 1) = 1 + (n + 1) * T n := rfl
    have hle : l.count 0 * T n ≤ (n + 1) * T n := Nat.mul_le_mul_right _ hn
    obtain ⟨K, D', h1, h2, h3⟩ := i_step h (T n) (fun i hi h0 D1 hD1 hs1 => by
      have := count_set (p := p) hi h0 h.p0
      exact ih (by omega) _ _ (h.set i).other (by omega) D1 hD1 hs1) D hD (by omega)
    exact ⟨K, D', h1, h2, by omega⟩
/-- The program's answer. -/
theorem wins_ok {l : List Int} {p : Int} (h : Bo a c l p r q) (hn : l.count 0 ≤ 9) : ∃ (K : Nat) (D' : DataW Unit), ∀ k, K ≤ k → impl_wins.f k a c (.map []) l p = some (Wt r q l p, D') := by
  obtain ⟨K, D', h1, _⟩ := i_all (a := a) (c := c) (r := r) (q := q) 9 (Nat.le_refl _) l p h hn (.map []) inv_start (by have := T9; show 0 + T 9 ≤ _; omega)
  exact ⟨K, D', h1⟩
theorem move_ok {l : List Int} {p : Int} (h : Bo a c l p r q) (hn : l.count 0 ≤ 9) : ∃ (K : Nat) (D' : DataW Unit), ∀ k, K ≤ k → impl_move.l0 k a c (.map []) l p 0 = some (M (Wt r q) l p l.length 0, D') := by
  have h9 := T9
  have hT : T 9 = 1 + 9 * T 8 := rfl
  have hle : l.count 0 * T 8 ≤ 9 * T 8 := Nat.mul_le_mul_right _ hn
  obtain ⟨K, D', h1, _⟩ := i_loop h (T 8) (fun i hi h0 D hD hs => by
    have := count_set (p := p) hi h0 h.p0
    exact i_all 8 (by omega) _ _ (h.set i).other (by omega) D hD hs) l.length 0 (.map []) (by omega) inv_start (by rw [List.drop_zero]; show 0 + _ ≤ _; omega)
  exact ⟨K, D', h1⟩
end
end Go.Proofs.Ytjajahofbhcioaa.Pgi

namespace Go.Proofs.Ytjajahofbhcioaa.Pgg
open Go.RowKit Go.Proofs.Ytjajahofbhcioaa.Q Go.Proofs.Ytjajahofbhcioaa.Given Go.Proofs.Ytjajahofbhcioaa.Pbo Go.Proofs.Ytjajahofbhcioaa.Pgi Go.Proofs.Ytjajahofbhcioaa.Pm Go.Proofs.Ytjajahofbhcioaa.Ph Go.Proofs.Ytjajahofbhcioaa.Pu Go.Proofs.YtjajahofbhcioaaW.PrintWords Go.Proofs.YtjajahofbhcioaaW.PrintLast
set_option linter.unusedVariables false
set_option linter.unusedSimpArgs false

theorem wz {x : Nat} (h : x ≤ 100) : wrap64 ((x : Int) + 1) = ((x + 1 : Nat) : Int) := by unfold wrap64; omega
theorem free_i (l : List Int) (hl : l.length ≤ 30) (d : Nat) : ∀ (i x k : Nat), i + d = l.length → x ≤ i → d < k → impl_free.l0 k (x : Int) l (i : Int) = some ((x + (l.drop i).count 0 : Nat) : Int) := by
  induction d with
  | zero =>
    intro i x k hi hx hk
    obtain ⟨k, rfl⟩ : ∃ m, k = m + 1 := ⟨k - 1, by omega⟩
    rw [impl_free.l0, if_neg (by omega), List.drop_of_length_le (by omega)]
    rfl
  | succ d ih =>
    intro i x k hi hx hk
    obtain ⟨k, rfl⟩ : ∃ m, k = m + 1 := ⟨k - 1, by omega⟩
    have hil : i < l.length := by omega
    have e : rd l (i : Nat) = l[i] := by unfold rd; rw [List.getD_eq_getElem?_getD, Int.toNat_natCast, List.getElem?_eq_getElem hil]; rfl
    have hdr : (l.drop i).count 0 = (l.drop (i + 1)).count 0 + (if rd l (i : Nat) = 0 then 1 else 0) := by
      rw [List.drop_eq_getElem_cons hil, List.count_cons, e]
      simp
    by_cases h0 : rd l (i : Nat) = 0
    · rw [if_pos h0] at hdr
      rw [impl_free.l0, if_pos (by omega), if_pos (by omega), if_pos h0, wz (by omega), wz (by omega), ih (i + 1) (x + 1) k (by omega) (by omega) (by omega), hdr]
      congr 2
      omega
    · rw [if_neg h0] at hdr
      rw [impl_free.l0, if_pos (by omega), if_pos (by omega), if_neg h0, wz (by omega), ih (i + 1) x k (by omega) (by omega) (by omega), hdr]
      rfl
theorem free_s (l : List Int) (hl : l.length ≤ 30) (d : Nat) : ∀ (i x k : Nat), i + d = l.length → x ≤ i → d < k → spec_hxFree.l0 k (x : Int) l (l.length : Int) (i : Int) = some ((x + (l.drop i).count 0 : Nat) : Int) := by
  induction d with
  | zero =>
    intro i x k hi hx hk
    obtain ⟨k, rfl⟩ : ∃ m, k = m + 1 := ⟨k - 1, by omega⟩
    rw [spec_hxFree.l0, if_neg (by omega), List.drop_of_length_le (by omega)]
    rfl
  | succ d ih =>
    intro i x k hi hx hk
    obtain ⟨k, rfl⟩ : ∃ m, k = m + 1 := ⟨k - 1, by omega⟩
    have hil : i < l.length := by omega
    have e : rd l (i : Nat) = l[i] := by unfold rd; rw [List.getD_eq_getElem?_getD, Int.toNat_natCast, List.getElem?_eq_getElem hil]; rfl
    have hdr : (l.drop i).count 0 = (l.drop (i + 1)).count 0 + (if rd l (i : Nat) = 0 then 1 else 0) := by
      rw [List.drop_eq_getElem_cons hil, List.count_cons, e]
      simp
    by_cases h0 : rd l (i : Nat) = 0
    · rw [if_pos h0] at hdr
      rw [spec_hxFree.l0, if_pos (by omega), if_pos (by omega), if_pos (by omega), if_pos h0, wz (by omega), wz (by omega), ih (i + 1) (x + 1) k (by omega) (by omega) (by omega), hdr]
      congr 2
      omega
    · rw [if_neg h0] at hdr
      rw [spec_hxFree.l0, if_pos (by omega), if_pos (by omega), if_pos (by omega), if_neg h0, wz (by omega), ih (i + 1) x k (by omega) (by omega) (by omega), hdr]
      rfl
/-- Whether there is a game that is played to its end; and the board. -/
theorem game (a c : Int) (l : List Int) (p : Int) (hm : l.length ≤ 1099511627776) : ∃ (K : Nat) (g : Option Bool), (∀ k, K ≤ k → impl_gameOf.f k a c l p = some g ∧ spec_hxPlayed.f k a c l p = some (g == some true)) ∧ (g = some true → (∃ r q, Bo a c l p r q) ∧ l.count 0 ≤ 9) := by
  obtain ⟨bb, _, h2, h3⟩ := board_f a c l hm (l.length + 1) (by omega)
  have hg : ∀ k, l.length + 1 ≤ k → spec_hxGood.f k a c l = some bb := fun k hk => by
    obtain ⟨b2, e1, e2, _⟩ := board_f a c l hm k (by omega)
    rw [e1]; rw [h2] at e2; exact e2.symm
  obtain ⟨p1, p2, p3⟩ := player_f p
  cases bb with
  | false =>
    refine ⟨l.length + 1, none, fun k hk => ⟨?_, ?_⟩, fun h => by cases h⟩
    · unfold impl_gameOf.f; rw [h2]; rfl
    · unfold spec_hxPlayed.f; rw [hg k hk]; rfl
  | true =>
    cases hp : inRange p 1 2 with
    | false =>
      rw [hp] at p1 p2
      refine ⟨l.length + 1, none, fun k hk => ⟨?_, ?_⟩, fun h => by cases h⟩
      · unfold impl_gameOf.f; rw [h2, Option.bind_some, if_pos rfl, p2]; rfl
      · unfold spec_hxPlayed.f; rw [hg k hk, Option.bind_some, if_pos rfl, p1]; rfl
    | true =>
      rw [hp] at p1 p2
      obtain ⟨a1, a2, a3⟩ := h3 rfl
      obtain ⟨r, q, g1, g2, g3, g4, g5, g6⟩ := shape_nat a1
      have hbo : Bo a c l p r q := ⟨a1, a2, a3, p3 hp, g1, g2, g3, g4, g5, by omega⟩
      have h30 := hbo.len30
      refine ⟨l.length + 1, some (decide ((l.count 0 : Int) ≤ 9)), fun k hk => ⟨?_, ?_⟩, fun h => ⟨⟨r, q, hbo⟩, ?_⟩⟩
      · have hf := free_i l h30 l.length 0 0 k (by omega) (by omega) (by omega)
        rw [List.drop_zero, Nat.zero_add] at hf
        unfold impl_gameOf.f; rw [h2, Option.bind_some, if_pos rfl, p2, Option.bind_some, if_pos rfl]
        rw [show ((0 : Nat) : Int) = 0 from rfl] at hf
        rw [hf]
        rfl
      · have hf := free_s l h30 l.length 0 0 k (by omega) (by omega) (by omega)
        rw [List.drop_zero, Nat.zero_add] at hf
        unfold spec_hxPlayed.f spec_hxFree.f; rw [hg k hk, Option.bind_some, if_pos rfl, p1, Option.bind_some, if_pos rfl]
        rw [show ((0 : Nat) : Int) = 0 from rfl] at hf
        rw [hf, Option.bind_some]
        by_cases h9 : (l.count 0 : Int) ≤ 9
        · rw [decide_eq_true h9]; rfl
        · rw [decide_eq_false h9]; rfl
      · injection h with h
        have := of_decide_eq_true h
        omega
theorem wins_same (a c : Int) (l : List Int) (p : Int) (hm : l.length ≤ 1099511627776) : ∃ (K : Nat) (g : Bool × Bool), ∀ k, K ≤ k → spec_WinsMoving.f k a c l p = some g ∧ impl_WinsMoving.f k a c l p = some g := by
  obtain ⟨K1, g, hg, hb⟩ := game a c l p hm
  by_cases hx : g = some true
  · obtain ⟨⟨r, q, h⟩, h9⟩ := hb hx
    obtain ⟨K2, h2⟩ := h.wins
    obtain ⟨K3, D', h3⟩ := wins_ok h h9
    refine ⟨K1 + K2 + K3, (Wt r q l p, true), fun k hk => ⟨?_, ?_⟩⟩
    · unfold spec_WinsMoving.f
      rw [(hg k (by omega)).2, hx, Option.bind_some]
      rw [if_pos (by decide), h2 k (by omega), Option.bind_some]
    · unfold impl_WinsMoving.f
      rw [(hg k (by omega)).1, Option.bind_some, if_pos hx, h3 k (by omega), Option.bind_some]
  · have hne : (g == some true) = false := beq_eq_false_iff_ne.2 hx
    refine ⟨K1, (false, false), fun k hk => ⟨?_, ?_⟩⟩
    · unfold spec_WinsMoving.f
      rw [(hg k hk).2, hne, Option.bind_some, if_neg (by decide)]
    · unfold impl_WinsMoving.f
      rw [(hg k hk).1, Option.bind_some, if_neg hx]
theorem first_same (a c : Int) (l : List Int) (p : Int) (hm : l.length ≤ 1099511627776) : ∃ (K : Nat) (g : Int × Bool), ∀ k, K ≤ k → spec_FirstWinningMove.f k a c l p = some g ∧ impl_FirstWinningMove.f k a c l p = some g := by
  obtain ⟨K1, g, hg, hb⟩ := game a c l p hm
  by_cases hx : g = some true
  · obtain ⟨⟨r, q, h⟩, h9⟩ := hb hx
    obtain ⟨K2, h2⟩ := h.move
    obtain ⟨K3, D', h3⟩ := move_ok h h9
    obtain ⟨K4, h4⟩ := h.winner
    obtain ⟨K5, v1, u1, hK5, _, n1⟩ := (h.pl (p' := 1) (.inl rfl)).need0
    obtain ⟨K6, v2, u2, hK6, _, n2⟩ := (h.pl (p' := 2) (.inr rfl)).need0
    obtain ⟨o1, o2, o3⟩ := (h.pl (p' := 1) (.inl rfl)).winO_iff
    have hge := (M_ge (Wt r q) l p l.length 0).1
    by_cases ho : winO r q l = 0
    · refine ⟨K1 + K2 + K3 + K4 + K5 + K6 + 1, (max (M (Wt r q) l p l.length 0) 0, decide (M (Wt r q) l p l.length 0 ≥ 0)), fun k hk => ⟨?_, ?_⟩⟩
      · obtain ⟨k, rfl⟩ : ∃ m, k = m + 1 := ⟨k - 1, by omega⟩
        have m1 : ¬ u1 = 0 := fun e => by have := o1.mpr (n1.mp e); omega
        have m2 : ¬ u2 = 0 := fun e => by have := o2.mpr (n2.mp e); omega
        unfold spec_FirstWinningMove.f
        rw [(hg _ (by omega)).2, hx, Option.bind_some, if_pos (by decide), (hK5 _ (by omega)).2, Option.bind_some, if_neg m1, (hK6 _ (by omega)).2, Option.bind_some, beq_eq_false_iff_ne.2 m2, spec_FirstWinningMove.j0, if_neg (by decide), h2 k (by omega), Option.bind_some]
        by_cases hneg : M (Wt r q) l p l.length 0 < 0
        · rw [if_pos hneg, decide_eq_false (by omega), Int.max_eq_right (by omega)]
        · rw [if_neg hneg, decide_eq_true (by omega), Int.max_eq_left (by omega)]
      · unfold impl_FirstWinningMove.f
        rw [(hg k (by omega)).1, Option.bind_some, if_pos hx, h4 k (by omega), Option.bind_some, if_pos ho, h3 k (by omega), Option.bind_some]
    · refine ⟨K1 + K2 + K3 + K4 + K5 + K6 + 1, (0, false), fun k hk => ⟨?_, ?_⟩⟩
      · obtain ⟨k, rfl⟩ : ∃ m, k = m + 1 := ⟨k - 1, by omega⟩
        unfold spec_FirstWinningMove.f
        rw [(hg _ (by omega)).2, hx, Option.bind_some, if_pos (by decide), (hK5 _ (by omega)).2, Option.bind_some]
        by_cases m1 : u1 = 0
        · rw [if_pos m1, spec_FirstWinningMove.j0, if_pos rfl]
        · have m2 : u2 = 0 := by
            rcases o3 with e | e | e
            · exact absurd e ho
            · exact absurd (n1.mpr (o1.mp e)) m1
            · exact n2.mpr (o2.mp e)
          rw [if_neg m1, (hK6 _ (by omega)).2, Option.bind_some, m2, spec_FirstWinningMove.j0, if_pos (by decide)]
      · unfold impl_FirstWinningMove.f
        rw [(hg k (by omega)).1, Option.bind_some, if_pos hx, h4 k (by omega), Option.bind_some, if_neg ho]
  · have hne : (g == some true) = false := beq_eq_false_iff_ne.2 hx
    refine ⟨K1 + 1, (0, false), fun k hk => ⟨?_, ?_⟩⟩
    · obtain ⟨k, rfl⟩ : ∃ m, k = m + 1 := ⟨k - 1, by omega⟩
      unfold spec_FirstWinningMove.f
      rw [(hg _ (by omega)).2, hne, Option.bind_some, if_neg (by decide), spec_FirstWinningMove.j0, if_pos rfl]
    · unfold impl_FirstWinningMove.f
      rw [(hg k (by omega)).1, Option.bind_some, if_neg hx]
end Go.Proofs.Ytjajahofbhcioaa.Pgg
