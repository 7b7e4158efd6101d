/- slices.DeleteFunc over at most two places with the walk's closure, by hand: what is left. -/
import Derived.Test.YtmfocekebenniaaNc
namespace Go.Proofs.Ytmfocekebenniaa.Given
open Go.Proofs.Ytmfocekebenniaa.Q Go.RowKit Go.Proofs.YtmfocekebenniaaW.PrintWords Go.Proofs.YtmfocekebenniaaW.PrintLast Go.Proofs.YtmfocekebenniaaW.PrintMore Go.Lib
set_option linter.unusedVariables false
set_option linter.unusedSimpArgs false
def PostI (L : List Pl) (m0 m1 : Int) (r : Int) : Prop := (r = -1 ∧ ∀ j, j < L.length → plEq (rd_T76 L (j : Nat)) m0 m1 = false) ∨ ∃ k : Nat, k < L.length ∧ r = k ∧ plEq (rd_T76 L (k : Nat)) m0 m1 = true ∧ ∀ j, j < k → plEq (rd_T76 L (j : Nat)) m0 m1 = false
theorem IndexFunc_at (g : Nat) (lb : Array Value) (eg : ∀ args w, (callFunc g args).run Try.prog w = .ok (.enter g args) w) (l : List Pl) (n : Nat) (hn : l.length = n) (b cap : Nat) (m0 m1 : Int) (w : World) (hC : Kd.C k76 w (some ⟨b, 0, none⟩) l.length l) (hl : l.length ≤ 2)
    (hp : ∀ (x y : Int) (W' : World), Below w.heap.size w W' → Calls Try.prog g (#[.agg #[.int .i64 x, .int .i64 y]] ++ lb) W' fun e w' => e = .returned (.bool (x == m0 && y == m1)) ∧ Below W'.heap.size W' w') (Q : Int → Prop) (hQ : ∀ r, PostI l m0 m1 r → Q r) :
    Calls Try.prog 44 #[.slice (some ⟨b, 0, none⟩) n cap, .func (.func g) #[] lb] w fun e w' => ∃ r : Int, e = .returned (.int .i64 r) ∧ Q r ∧ Below w.heap.size w w' := by
  subst hn
  refine (IndexFunc_pl g lb eg l b cap m0 m1 w hC hl hp).mono ?_
  rintro e w' ⟨r, he, hB, h⟩
  exact ⟨r, he, hQ r h, hB⟩
theorem one_r {Q : Value → World → Prop} {c : Int} {P : Program} {n : Nat} {a : Array Value} {w : World} {B : World → Prop} (h : Calls P n a w fun e w' => ∃ r : Int, e = .returned (.int .i64 r) ∧ r = c ∧ B w') : Calls P n a w fun e w' => e = .returned (.int .i64 c) ∧ B w' :=
  h.mono (by rintro e w' ⟨r, rfl, rfl, hB⟩; exact ⟨rfl, hB⟩)
theorem pi_1n (p : Pl) (m0 m1 : Int) (h : plEq p m0 m1 = false) (r : Int) (hr : PostI [p] m0 m1 r) : r = -1 := by
  rcases hr with ⟨h1, _⟩ | ⟨k, hk, _, hk2, _⟩
  · exact h1
  · obtain rfl : k = 0 := by simp at hk; omega
    exact absurd (hk2.symm.trans h) (by decide)
theorem pi_1y (p : Pl) (m0 m1 : Int) (h : plEq p m0 m1 = true) (r : Int) (hr : PostI [p] m0 m1 r) : r = 0 := by
  rcases hr with ⟨_, h1⟩ | ⟨k, hk, h2, _, _⟩
  · exact absurd ((h1 0 (by simp)).symm.trans h) (by decide)
  · obtain rfl : k = 0 := by simp at hk; omega
    exact h2
theorem pi_2nn (p q : Pl) (m0 m1 : Int) (h : plEq p m0 m1 = false) (h' : plEq q m0 m1 = false) (r : Int) (hr : PostI [p, q] m0 m1 r) : r = -1 := by
  rcases hr with ⟨h1, _⟩ | ⟨k, hk, _, hk2, _⟩
  · exact h1
  · have hk' : k = 0 ∨ k = 1 := by simp at hk; omega
    rcases hk' with rfl | rfl
    · exact absurd (hk2.symm.trans h) (by decide)
    · exact absurd (hk2.symm.trans h') (by decide)
theorem pi_2ny (p q : Pl) (m0 m1 : Int) (h : plEq p m0 m1 = false) (h' : plEq q m0 m1 = true) (r : Int) (hr : PostI [p, q] m0 m1 r) : r = 1 := by
  rcases hr with ⟨_, h1⟩ | ⟨k, hk, h2, hk2, _⟩
  · exact absurd ((h1 1 (by simp)).symm.trans h') (by decide)
  · have hk' : k = 0 ∨ k = 1 := by simp at hk; omega
    rcases hk' with rfl | rfl
    · exact absurd (hk2.symm.trans h) (by decide)
    · exact h2
theorem pi_2y (p q : Pl) (m0 m1 : Int) (h : plEq p m0 m1 = true) (r : Int) (hr : PostI [p, q] m0 m1 r) : r = 0 := by
  rcases hr with ⟨_, h1⟩ | ⟨k, hk, h2, hk2, hlow⟩
  · exact absurd ((h1 0 (by simp)).symm.trans h) (by decide)
  · have hk' : k = 0 ∨ k = 1 := by simp at hk; omega
    rcases hk' with rfl | rfl
    · exact h2
    · exact absurd ((hlow 0 (by omega)).symm.trans h) (by decide)

/-- What is known behind the call. -/
def PostD (b cap B : Nat) (w : World) (F : List Pl) (w' : World) : Prop := F.length ≤ cap ∧ Below B w w' ∧ (∀ p t, F = p :: t → w'.cell? ⟨b, 0, none⟩ = some (.int .i64 p.f0) ∧ w'.cell? ⟨b, 1, none⟩ = some (.int .i64 p.f1))
def Cl (b : Nat) (p : Pl) (W : World) : Prop := W.cell? ⟨b, 0, none⟩ = some (.int .i64 p.f0) ∧ W.cell? ⟨b, 1, none⟩ = some (.int .i64 p.f1)
theorem postD_cons (b cap B : Nat) (w : World) (p : Pl) (t : List Pl) (w' : World) (h1 : (p :: t).length ≤ cap) (h2 : Below B w w') (h3 : Cl b p w') : PostD b cap B w (p :: t) w' :=
  ⟨h1, h2, fun q t he => by injection he with e1 e2; subst e1; exact h3⟩
theorem postD_nil (b cap B : Nat) (w : World) (w' : World) (h2 : Below B w w') : PostD b cap B w [] w' :=
  ⟨Nat.zero_le _, h2, fun q t he => by cases he⟩
set_option maxHeartbeats 1000000 in
theorem Del_1 (g : Nat) (lb : Array Value) (eg : ∀ args w, (callFunc g args).run Try.prog w = .ok (.enter g args) w) (p : Pl) (b cap B : Nat) (m0 m1 : Int) (w : World) (cur : Array Value) (hB : B ≤ b) (hBw : B ≤ w.heap.size) (hcap : 1 ≤ cap)
    (hh : w.heap[b]? = some (.cells cur 38 (0, 0))) (c0 : cur[0]? = some (.int .i64 p.f0)) (c1 : cur[1]? = some (.int .i64 p.f1))
    (hI : ∀ (Q : Int → Prop) (hQ : ∀ r, PostI [p] m0 m1 r → Q r), Calls Try.prog 44 #[.slice (some ⟨b, 0, none⟩) 1 cap, .func (.func g) #[] lb] w fun e w' => ∃ r : Int, e = .returned (.int .i64 r) ∧ Q r ∧ Below w.heap.size w w') :
    Calls Try.prog 33 #[.slice (some ⟨b, 0, none⟩) 1 cap, .func (.func g) #[] lb] w fun e w' => ∃ n, n = ([p].filter (fun p => !plEq p m0 m1)).length ∧ e = .returned (.slice (some ⟨b, 0, none⟩) n cap) ∧ PostD b cap B w ([p].filter (fun p => !plEq p m0 m1)) w' := by
  cases hp0 : plEq p m0 m1 with
  | false =>
    have hF : [p].filter (fun p => !plEq p m0 m1) = [p] := by simp [hp0]
    rw [hF]
    have h1 := one_r (Q := fun _ _ => True) (hI (· = -1) (pi_1n p m0 m1 hp0))
    refine (Del_none g lb eg b 1 cap w h1).mono ?_
    rintro e w' ⟨rfl, hW⟩
    have h9 := blk_below hh hW
    exact ⟨1, rfl, rfl, postD_cons _ _ _ _ _ _ _ hcap (hW.mono hBw) ⟨(blk_cell h9 _).trans c0, (blk_cell h9 _).trans c1⟩⟩
  | true =>
    have hF : [p].filter (fun p => !plEq p m0 m1) = [] := by simp [hp0]
    rw [hF]
    have h1 := one_r (Q := fun _ _ => True) (hI (· = 0) (pi_1y p m0 m1 hp0))
    refine (Del_B g lb eg p.f0 p.f1 b cap w cur hh c0 c1 hcap h1).mono ?_
    rintro e w' ⟨rfl, hW⟩
    exact ⟨0, rfl, rfl, postD_nil _ _ _ _ _ (hW.mono hB)⟩
set_option maxHeartbeats 1000000 in
theorem Del_2 (g : Nat) (lb : Array Value) (eg : ∀ args w, (callFunc g args).run Try.prog w = .ok (.enter g args) w) (p q : Pl) (b cap B : Nat) (m0 m1 : Int) (w : World) (cur : Array Value) (hB : B ≤ b) (hBw : B ≤ w.heap.size) (hcap : 2 ≤ cap)
    (hh : w.heap[b]? = some (.cells cur 38 (0, 0))) (c0 : cur[0]? = some (.int .i64 p.f0)) (c1 : cur[1]? = some (.int .i64 p.f1)) (c2 : cur[2]? = some (.int .i64 q.f0)) (c3 : cur[3]? = some (.int .i64 q.f1))
    (hb : plEq p m0 m1 = true → plEq q m0 m1 = true → False)
    (hp : ∀ (x y : Int) (W' : World), Below w.heap.size w W' → Calls Try.prog g (#[.agg #[.int .i64 x, .int .i64 y]] ++ lb) W' fun e w' => e = .returned (.bool (x == m0 && y == m1)) ∧ Below W'.heap.size W' w')
    (hI : ∀ (Q : Int → Prop) (hQ : ∀ r, PostI [p, q] m0 m1 r → Q r), Calls Try.prog 44 #[.slice (some ⟨b, 0, none⟩) 2 cap, .func (.func g) #[] lb] w fun e w' => ∃ r : Int, e = .returned (.int .i64 r) ∧ Q r ∧ Below w.heap.size w w') :
    Calls Try.prog 33 #[.slice (some ⟨b, 0, none⟩) 2 cap, .func (.func g) #[] lb] w fun e w' => ∃ n, n = ([p, q].filter (fun p => !plEq p m0 m1)).length ∧ e = .returned (.slice (some ⟨b, 0, none⟩) n cap) ∧ PostD b cap B w ([p, q].filter (fun p => !plEq p m0 m1)) w' := by
  cases hp0 : plEq p m0 m1 with
  | false =>
    cases hq0 : plEq q m0 m1 with
    | false =>
      have hF : [p, q].filter (fun p => !plEq p m0 m1) = [p, q] := by simp [hp0, hq0]
      rw [hF]
      have h1 := one_r (Q := fun _ _ => True) (hI (· = -1) (pi_2nn p q m0 m1 hp0 hq0))
      refine (Del_none g lb eg b 2 cap w h1).mono ?_
      rintro e w' ⟨rfl, hW⟩
      have h9 := blk_below hh hW
      exact ⟨2, rfl, rfl, postD_cons _ _ _ _ _ _ _ hcap (hW.mono hBw) ⟨(blk_cell h9 _).trans c0, (blk_cell h9 _).trans c1⟩⟩
    | true =>
      have hF : [p, q].filter (fun p => !plEq p m0 m1) = [p] := by simp [hp0, hq0]
      rw [hF]
      have h1 := one_r (Q := fun _ _ => True) (hI (· = 1) (pi_2ny p q m0 m1 hp0 hq0))
      refine (Del_E g lb eg p.f0 p.f1 b cap w cur _ hh c0 c1 c3 hcap h1).mono ?_
      rintro e w' ⟨rfl, hW, h0, h1⟩
      exact ⟨1, rfl, rfl, postD_cons _ _ _ _ _ _ _ (Nat.le_of_succ_le hcap) (hW.mono hB) ⟨h0, h1⟩⟩
  | true =>
    have hq0 : plEq q m0 m1 = false := by
      cases hq : plEq q m0 m1 with
      | false => rfl
      | true => exact (hb hp0 hq).elim
    have hF : [p, q].filter (fun p => !plEq p m0 m1) = [q] := by simp [hp0, hq0]
    rw [hF]
    have h1 := one_r (Q := fun _ _ => True) (hI (· = 0) (pi_2y p q m0 m1 hp0))
    have h2 : ∀ (W' : World), Below w.heap.size w W' → Calls Try.prog g (#[.agg #[.int .i64 q.f0, .int .i64 q.f1]] ++ lb) W' fun e w' => e = .returned (.bool false) ∧ Below W'.heap.size W' w' := by
      intro W' hW
      have h9 := hp q.f0 q.f1 W' hW
      rw [show (q.f0 == m0 && q.f1 == m1) = false from hq0] at h9
      exact h9
    refine (Del_D g lb eg p.f0 p.f1 q.f0 q.f1 b cap m0 m1 w cur hh c0 c1 c2 c3 hcap h1 h2).mono ?_
    rintro e w' ⟨rfl, hW, h0, h1⟩
    exact ⟨1, rfl, rfl, postD_cons _ _ _ _ _ _ _ (Nat.le_of_succ_le hcap) (hW.mono hB) ⟨h0, h1⟩⟩
theorem pl_cells {L : List Pl} {b : Nat} {w : World} {cur : Array Value} (hh : w.heap[b]? = some (.cells cur 38 (0, 0))) (hC : Kd.C k76 w (some ⟨b, 0, none⟩) L.length L) (i : Nat) (p : Pl) (hi : L[i]? = some p) : cur[i * 2]? = some (.int .i64 p.f0) ∧ cur[i * 2 + 1]? = some (.int .i64 p.f1) := by
  have hlt : i < L.length := by
    rcases Nat.lt_or_ge i L.length with h | h
    · exact h
    · rw [List.getElem?_eq_none h] at hi; cases hi
  obtain ⟨ad, ead, hx0, hx1⟩ := at_T76 hC (i : Int) (by omega) (by omega)
  cases ead
  rw [add_at, Int.toNat_natCast] at hx0 hx1
  have hr : rd_T76 L (i : Nat) = p := by
    rw [List.getElem?_eq_getElem hlt] at hi
    injection hi with hi
    unfold rd_T76; simp [hlt, hi]
  rw [hr] at hx0 hx1
  exact ⟨(blk_cell hh _).symm.trans hx0, (blk_cell hh _).symm.trans hx1⟩
set_option maxHeartbeats 2000000 in
/-- What is left of a list of one or two places. -/
theorem DeleteFunc_pl (g : Nat) (lb : Array Value) (eg : ∀ args w, (callFunc g args).run Try.prog w = .ok (.enter g args) w) (L : List Pl) (B : Nat) (v : Value) (m0 m1 : Int) (w : World) (ok : Nat → Prop) (hR : Kd.R k76 38 w B ok v L) (hne : 0 < L.length) (hl : L.length ≤ 2)
    (hb : ∀ p q, L = [p, q] → plEq p m0 m1 = true → plEq q m0 m1 = true → False)
    (hp : ∀ (x y : Int) (W' : World), Below w.heap.size w W' → Calls Try.prog g (#[.agg #[.int .i64 x, .int .i64 y]] ++ lb) W' fun e w' => e = .returned (.bool (x == m0 && y == m1)) ∧ Below W'.heap.size W' w') :
    Calls Try.prog 33 #[v, .func (.func g) #[] lb] w fun e w' => ∃ (b cap n : Nat), n = (L.filter (fun p => !plEq p m0 m1)).length ∧ e = .returned (.slice (some ⟨b, 0, none⟩) n cap) ∧ PostD b cap B w (L.filter (fun p => !plEq p m0 m1)) w' := by
  obtain ⟨b, cap, rfl, hBb, hbs, cur, hh⟩ := Kd.R_form hR hne
  obtain ⟨_, hlen, hC⟩ := Kd.R_reads' hR
  have hc := pl_cells hh hC
  have hBw : B ≤ w.heap.size := by omega
  have h3 : L.length = 1 ∨ L.length = 2 := by omega
  rcases h3 with h3 | h3
  · obtain ⟨p, rfl⟩ := List.length_eq_one_iff.mp h3
    have hI := fun Q hQ => IndexFunc_at g lb eg [p] 1 h3 b cap m0 m1 w hC hl hp Q hQ
    have c0 := hc 0 p rfl
    rw [h3] at hlen
    rw [h3]
    refine (Del_1 g lb eg p b cap B m0 m1 w cur hBb hBw hlen hh c0.1 c0.2 hI).mono ?_
    rintro e w' ⟨n, h1, h2, h4⟩
    exact ⟨b, cap, n, h1, h2, h4⟩
  · obtain ⟨p, q, rfl⟩ : ∃ p q, L = [p, q] := by
      match L, h3 with
      | [p, q], _ => exact ⟨p, q, rfl⟩
    have hI := fun Q hQ => IndexFunc_at g lb eg [p, q] 2 h3 b cap m0 m1 w hC hl hp Q hQ
    have c0 := hc 0 p rfl
    have c1 := hc 1 q rfl
    rw [h3] at hlen
    rw [h3]
    refine (Del_2 g lb eg p q b cap B m0 m1 w cur hBb hBw hlen hh c0.1 c0.2 c1.1 c1.2 (hb p q rfl) hp hI).mono ?_
    rintro e w' ⟨n, h1, h2, h4⟩
    exact ⟨b, cap, n, h1, h2, h4⟩
end Go.Proofs.Ytmfocekebenniaa.Given
