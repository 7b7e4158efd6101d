/- laws.toIntSS by hand: rows of numbers are copied row by row into new rows; for all arguments that are not too long. -/
import Derived.Test.YtmdhclpkbopmdaaQx1
import Derived.Test.YtmdhclpkbopmdaaPz
import Derived.Outline
import Derived.Lib.Walk
namespace Go.Proofs.Ytmdhclpkbopmdaa.Given
open Go.Proofs.Ytmdhclpkbopmdaa.Q Go.RowKit Go.Proofs.YtmdhclpkbopmdaaW.PrintWords Go.Proofs.YtmdhclpkbopmdaaW.PrintLast Go.Proofs.YtmdhclpkbopmdaaW.PrintMore
set_option linter.unusedVariables false
set_option linter.unusedSimpArgs false

/-- Block g holds the first m of these rows, each in a block other than g. -/
def TR (w : World) (g : Nat) (l : List (List Int)) (m : Nat) : Prop := ∃ cur : Array Value, w.heap[g]? = some (.cells cur 32 (0, 0)) ∧ l.length ≤ cur.size ∧ ∀ j, j < m → ∃ A c, cur[j]? = some (.slice A (l.getD j []).length c) ∧ (l.getD j []).length ≤ c ∧ (Kd.int .i64).C w A (l.getD j []).length (l.getD j []) ∧ ∀ ad, A = some ad → ad.block ≠ g
theorem TR.below {w w1 : World} {g m : Nat} {l : List (List Int)} (h : TR w g l m) (hb : Below w.heap.size w w1) : TR w1 g l m := by
  obtain ⟨cur, h1, h2, h3⟩ := h
  refine ⟨cur, (hb.block g (blk_lt h1)).trans h1, h2, fun j hj => ?_⟩
  obtain ⟨A, c, e, hc, hr, hn⟩ := h3 j hj
  exact ⟨A, c, e, hc, Kd.C_below hr hb, hn⟩
theorem TR.cell {w : World} {g m : Nat} {l : List (List Int)} (h : TR w g l m) {j : Nat} (hj : j < l.length) : (∃ v, w.cell? ⟨g, j, none⟩ = some v) ∧ w.frozen? ⟨g, j, none⟩ = false := by
  obtain ⟨cur, h1, h2, h3⟩ := h
  exact ⟨⟨_, (blk_cell h1 j).trans (Array.getElem?_eq_getElem (by omega))⟩, blk_frozen h1 j⟩
theorem TR.lt {w : World} {g m : Nat} {l : List (List Int)} (h : TR w g l m) : g < w.heap.size := by
  obtain ⟨cur, h1, h2, h3⟩ := h
  exact blk_lt h1
theorem TR.store {w : World} {g m : Nat} {l : List (List Int)} (h : TR w g l m) (hm : m < l.length) {A : Option Addr} {c : Nat} (hc : (l.getD m []).length ≤ c) (hr : (Kd.int .i64).C w A (l.getD m []).length (l.getD m [])) (hn : ∀ ad, A = some ad → ad.block ≠ g) : TR (w.setCell ⟨g, m, none⟩ (.slice A (l.getD m []).length c)) g l (m + 1) := by
  obtain ⟨cur, h1, h2, h3⟩ := h
  have K : ∀ u, KeepBut w (w.setCell ⟨g, m, none⟩ u) g none := fun u => (KeepBut.refl w g none).set_ m u
  refine ⟨cur.setIfInBounds m (.slice A (l.getD m []).length c), blk_set h1 m _, by simpa using h2, fun j hj => ?_⟩
  by_cases e : j = m
  · subst e
    exact ⟨A, c, by rw [Array.getElem?_setIfInBounds_self_of_lt (by omega)], hc, Kd.C_keep 0 hr (K _) (fun ad ha _ => hn ad ha), hn⟩
  · obtain ⟨A', c', e', hc', hr', hn'⟩ := h3 j (by omega)
    exact ⟨A', c', by rw [Array.getElem?_setIfInBounds_ne (Ne.symm e)]; exact e', hc', Kd.C_keep 0 hr' (K _) (fun ad ha _ => hn' ad ha), hn'⟩
theorem TR.rows {w : World} {g : Nat} {l : List (List Int)} (h : TR w g l l.length) (hl : l.length ≤ 9223372036854775807) : (Kd.slice 3 (Kd.int .i64)).C w (some ⟨g, 0, none⟩) l.length l := by
  obtain ⟨cur, h1, h2, h3⟩ := h
  refine ⟨rfl, hl, fun _ => ⟨_, rfl, fun j p hj => ?_⟩⟩
  obtain ⟨hjl, hp⟩ := List.getElem?_eq_some_iff.1 hj
  obtain ⟨A, c, e, hc, hr, hn⟩ := h3 j hjl
  have hg : l.getD j [] = p := by rw [List.getD_eq_getElem?_getD, hj]; rfl
  rw [hg] at e hc hr
  refine ⟨[.slice A p.length c], rfl, ⟨A, c, rfl, hc, hr⟩, fun i u hu => ?_⟩
  cases i with
  | zero =>
    obtain rfl := Option.some.inj hu
    have ea : (⟨g, 0, none⟩ : Addr).add (j * 1 + 0) = ⟨g, j, none⟩ := by simp [Addr.add]; intro h; exact h.symm
    have hsz : (Kd.slice 3 (Kd.int .i64)).sz = 1 := rfl
    rw [hsz, ea, blk_cell h1 j]
    exact e
  | succ i => simp at hu
theorem raw_form {W : World} {base e s : Nat} {ok : Nat → Prop} {v : Value} {xs : List (List Value)} (h : (Kd.raw 1).R e W base ok v xs) (hb : ∃ b, v.ownBlock = some b ∧ s ≤ b) : ∃ g cap, v = .slice (some ⟨g, 0, none⟩) xs.length cap ∧ s ≤ g ∧ xs.length ≤ cap ∧ ∃ cur : Array Value, W.heap[g]? = some (.cells cur e (0, 0)) ∧ xs.length ≤ cur.size := by
  obtain ⟨inner, h1, h2⟩ := Kd.R_own h
  obtain ⟨b, hb1, hb2⟩ := hb
  rcases h2 with ⟨he, h0⟩ | ⟨g, cap, cur, he, hb, hh, hnc, hcm, hcs, ht⟩
  · subst he
    simp [Value.ownBlock] at hb1
  · subst he
    have : b = g := by simpa [Value.ownBlock] using hb1.symm
    subst this
    exact ⟨b, cap, rfl, hb2, hnc, cur, hh, by have : (Kd.raw 1).sz = 1 := rfl; rw [this] at hcs; omega⟩
theorem info_row : (Try.prog.info? 32).map (fun i => (i.zero, i.size, i.bytes)) = some (some (.slice none 0 0), 1, 24) := by kernel_rfl

set_option maxHeartbeats 4000000 in
theorem laws_toIntSS.calls (A0 : Option Addr) (c0 : Nat) (l : List (List Int)) (w : World) (hr : Kd.C (Kd.slice 3 (Kd.int .i64)) w A0 l.length l) (hc : l.length ≤ c0) (hm : l.length ≤ 1099511627776) (hi : ∀ x ∈ l, x.length ≤ 1099511627776) :
    Calls Try.prog 19 #[.slice A0 l.length c0] w fun e w' => ∃ A c, e = .returned (.slice A l.length c) ∧ l.length ≤ c ∧ Kd.C (Kd.slice 3 (Kd.int .i64)) w' A l.length l ∧ Below w.heap.size w w' := by
  have HR := Aside0.mk hr
  have HI := Aside0.mk hi
  clear hr hc hi
  go_enter Try.func19, Try.ntmps19
  go_wp2_with ((with_reducible refine gate_dst (N := 7) rfl ?_); refine Kd.R_make (Kd.raw 1) _ 32 rfl (N := 7) rfl 25 _ _ rfl (l.length : Int) rfl rfl Try.underlying25 (.slice none 0 0) 24 info_row rfl (by decide) (by omega) [.slice none 0 0] (ok := fun _ => True) (okp := fun _ => True) (by refine ⟨rfl, rfl, ?_⟩; intro u hu; obtain rfl := List.mem_singleton.1 hu; rfl) (fun _ hk => hk) trivial (by omega) (by simp; omega) (Below.refl _ _) (Nat.le_refl _) ?_; intro v1 w1 ho hb _ hat; obtain ⟨g, cap, rfl, hg, hcap, hcur⟩ := raw_form ho hat; simp only [List.length_replicate, Int.toNat_natCast] at hcap hcur ⊢; have HB := Aside0.mk hb; have HCUR := Aside0.mk hcur; clear ho hb hat hcur)
  have HG := Aside0.mk hg
  clear hg
  go_loopg [4] l.length (fun gg s4 wr => ∃ m : Nat, s4 = .int .i64 m ∧ m ≤ l.length ∧ l.length - m ≤ gg ∧ Aside0 (Below w.heap.size w wr) ∧ Aside0 (TR wr g l m))
  case atStart =>
    obtain ⟨cur, h1, h2⟩ := HCUR.out
    exact ⟨0, rfl, Nat.zero_le _, by omega, HB, ⟨⟨cur, h1, h2, fun j hj => absurd hj (Nat.not_lt_zero _)⟩⟩⟩
  case round =>
    clear HB HCUR
    obtain ⟨m, rfl, hml, hgg, HB, HT⟩ := hrel
    by_cases hlt : m < l.length
    · have hltz : (m : Int) < (l.length : Int) := by omega
      have hm0 : (0 : Int) ≤ (m : Int) := by omega
      obtain ⟨ad, Ax, cx, e1, hx, hlx, hCx⟩ := at_L1 (Kd.C_below HR.out HB.out) (m : Int) hm0 hltz
      cases e1
      rw [Int.toNat_natCast] at hx
      have hy : rd_L1 l (m : Int) = l.getD m [] := by unfold rd_L1; rw [Int.toNat_natCast]
      rw [hy] at hx hlx hCx
      clear hy
      have hmem : l.getD m [] ∈ l := by rw [List.getD_eq_getElem?_getD, List.getElem?_eq_getElem hlt]; exact List.getElem_mem hlt
      have hto := Go.Proofs.Ytmdhclpkbopmdaa.Pz.toIntS_f (l.getD m []) (HI.out _ hmem) ((l.getD m []).length + 1) (Nat.lt_succ_self _)
      have HST := Aside0.mk (fun (w' : World) (B2 : Below wr.heap.size wr w') (A : Option Addr) (c : Nat) (hc : (l.getD m []).length ≤ c) (hr : (Kd.int .i64).C w' A (l.getD m []).length (l.getD m [])) (hn : ∀ ad, A = some ad → ad.block ≠ g) => TR.store (HT.out.below B2) hlt hc hr hn)
      have HNX := Aside0.mk (fun (w' : World) (B2 : Below wr.heap.size wr w') => (HT.out.below B2).cell hlt)
      have hglt := HT.out.lt
      clear hmem
      generalize l.getD m [] = x at hx hlx hCx hto HST
      go_wp2_with (go_at_call 28; refine (laws_toIntS.calls (x.length + 1) _ _ x x _ (by repeat (first | exact hCx | apply Kd.C_drewN)) hlx hto).mono ?_; rintro e w2 ⟨v2, rfl, R2, B2⟩; have B2 := below_step (show Below wr.heap.size wr _ by repeat (first | exact Below.refl _ _ | apply pw_below_drewN)) B2; have hbs := Kd.R_base R2; obtain ⟨A2, c2, rfl⟩ := Kd.R_slice R2; obtain ⟨_, k2, k3⟩ := Kd.R_reads' R2; have hfar : ∀ ad, A2 = some ad → ad.block ≠ g := (fun ad ha => by subst ha; obtain ⟨g2, rfl⟩ := Kd.R_head R2; have := hbs g2 rfl; simp at this ⊢; omega); have HS := Aside0.mk (HST.out w2 B2 A2 c2 k2 k3 hfar); obtain ⟨⟨old, ci⟩, fi⟩ := HNX.out w2 B2; have HB2 := Aside0.mk (below_step HB.out B2); clear R2 hbs k2 k3 hfar B2)
      go_roundg (l.length - (m + 1))
      case measure => omega
      case rel => exact ⟨m + 1, by go_num, by omega, Nat.le_refl _, ⟨below_set HB2.out HG.out⟩, HS⟩
    · have hltz : ¬ (m : Int) < (l.length : Int) := by omega
      have hk : m = l.length := by omega
      subst hk
      go_wp2
      go_ret
      exact ⟨_, _, rfl, hcap, HT.out.rows (by omega), HB.out⟩
end Go.Proofs.Ytmdhclpkbopmdaa.Given
