/- impl.WinnerByWalk by hand; for all ints and all slices that read as lists. -/
import Derived.Test.YtmfocekebenniaaNe
import Derived.Test.YtmfocekebenniaaNg0
namespace Go.Proofs.Ytmfocekebenniaa.Given
open Go.Proofs.Ytmfocekebenniaa.Q Go.RowKit Go.Proofs.YtmfocekebenniaaW.PrintWords Go.Proofs.YtmfocekebenniaaW.PrintLast Go.Proofs.YtmfocekebenniaaW.PrintMore Go.Lib
open Go.Proofs.Ytmfocekebenniaa.Ng
set_option linter.unusedVariables false
set_option linter.unusedSimpArgs false
/-- The walk, so many steps at most. -/
def runW (R C : Int) (one : Int → Int → Bool) : Nat → StD → Option StD
  | 0, _ => none
  | n + 1, s => match Hw.next R C one s with
    | none => some s
    | some t => runW R C one n t
theorem runW_of {R C : Int} {one : Int → Int → Bool} {s0 sK : StD} {K : Nat} (hK : Hw.seq R C one s0 K = some sK) (hn : Hw.next R C one sK = none) : ∀ (d j : Nat) (s : StD), Hw.seq R C one s0 j = some s → j + d = K → ∀ n, d < n → runW R C one n s = some sK := by
  intro d
  induction d with
  | zero =>
    intro j s hs hj n hlt
    obtain ⟨n, rfl⟩ : ∃ m, n = m + 1 := ⟨n - 1, by omega⟩
    obtain rfl : j = K := by omega
    rw [hK] at hs
    injection hs with hs
    subst hs
    unfold runW
    rw [hn]
  | succ d ih =>
    intro j s hs hj n hlt
    obtain ⟨n, rfl⟩ : ∃ m, n = m + 1 := ⟨n - 1, by omega⟩
    obtain ⟨t, h1, h2⟩ := seq_at hK (by omega) hs
    unfold runW
    rw [h1]
    exact ih (j + 1) t h2 (by omega) n (by omega)
def stepsW : Nat := 2000000
def walkWin (R C : Int) (l : List Int) : Int := match runW R C (He.one R C (ownL C l)) stepsW st0 with
  | some s => if s.a = R then 1 else 2
  | none => 2
def impl_WinnerByWalk.f (k : Nat) (a0 a1 : Int) (l2 : List Int) : Option (Int × Bool) := (impl_isFullBoard.f k a0 a1 l2).bind fun t => if t = true then some (walkWin a0 a1 l2, true) else some (0, false)
theorem impl_WinnerByWalk.mono : ∀ a0 a1 a2 k, LeO (impl_WinnerByWalk.f k a0 a1 a2) (impl_WinnerByWalk.f (k + 1) a0 a1 a2) := by
  intro a0 a1 a2 k
  unfold impl_WinnerByWalk.f
  refine LeO.bind (impl_isFullBoard.mono _ _ _ _) (fun _ => LeO.refl _)
/-- The end of the walk of a full board. -/
theorem walk_end {R C : Int} {l : List Int} (hF : FullP R C l) : ∃ K sK, K < 2000000 ∧ Hw.seq R C (He.one R C (ownL C l)) st0 K = some sK ∧ Hw.next R C (He.one R C (ownL C l)) sK = none ∧
    ((sK.a = -1 ∧ sK.x = -1 ∧ walkWin R C l = 2) ∨ (sK.a = R ∧ sK.x = R ∧ walkWin R C l = 1)) := by
  obtain ⟨⟨s1, s2⟩, _, _, _⟩ := hF
  obtain ⟨K, sK, hk, hs, _, hn, he⟩ := He.walk_ends (own := ownL C l) s1.1 s2.1
  have hN : ((R + 2) * (C + 2)).toNat ≤ 1024 := by
    have : (R + 2) * (C + 2) ≤ 32 * 32 := Int.mul_le_mul (by omega) (by omega) (by omega) (by omega)
    omega
  have hN2 : ((R + 2) * (C + 2)).toNat * ((R + 2) * (C + 2)).toNat ≤ 1024 * 1024 := Nat.mul_le_mul hN hN
  have hrun : runW R C (He.one R C (ownL C l)) stepsW st0 = some sK := runW_of hs hn K 0 st0 rfl (by omega) stepsW (by unfold stepsW; omega)
  have hw : walkWin R C l = if sK.a = R then 1 else 2 := by
    unfold walkWin
    rw [hrun]
  refine ⟨K, sK, by omega, hs, hn, ?_⟩
  rcases he with ⟨h1, _, h2, _⟩ | ⟨h1, _, h2, _⟩
  · exact .inl ⟨h1, h2, by rw [hw, if_neg (by omega)]⟩
  · exact .inr ⟨h1, h2, by rw [hw, if_pos h1]⟩
def zD : StD := ⟨0, 0, 0, 0⟩
theorem last_cells {W : World} {base : Nat} {ok : Nat → Prop} {v : Value} {L : List StD} {s : StD} (h : Kd.R kD 39 W base ok v (L ++ [s])) : ∃ b cap, v = .slice (some ⟨b, 0, none⟩) (L.length + 1) cap ∧ L.length + 1 ≤ cap ∧
    W.cell? ⟨b, L.length * 4, none⟩ = some (.int .i64 s.a) ∧ W.cell? ⟨b, L.length * 4 + 1, none⟩ = some (.int .i64 s.b) ∧ W.cell? ⟨b, L.length * 4 + 2, none⟩ = some (.int .i64 s.x) ∧ W.cell? ⟨b, L.length * 4 + 3, none⟩ = some (.int .i64 s.y) := by
  have hlen : (L ++ [s]).length = L.length + 1 := by simp
  obtain ⟨b, cap, rfl, _, _, cur, hh⟩ := Kd.R_form h (by rw [hlen]; omega)
  obtain ⟨_, hcap, hC⟩ := Kd.R_reads' h
  rw [hlen] at hcap
  obtain ⟨ad, c, e, _, hK, hc0⟩ := Kd.C_get hC zD (L.length : Int) (by omega) (by rw [hlen]; omega)
  cases e
  have hs : (L ++ [s]).getD ((L.length : Int)).toNat zD = s := by simp
  rw [hs] at hK
  obtain rfl := kD_open hK
  have hc : ∀ j u, ([.int .i64 s.a, .int .i64 s.b, .int .i64 s.x, .int .i64 s.y] : List Value)[j]? = some u → W.cell? ⟨b, L.length * 4 + j, none⟩ = some u := by
    intro j u hu
    have h9 := hc0 j u hu
    rw [add_at, Int.toNat_natCast] at h9
    exact h9
  exact ⟨b, cap, by rw [hlen], hcap, hc 0 _ rfl, hc 1 _ rfl, hc 2 _ rfl, hc 3 _ rfl⟩
set_option maxHeartbeats 16000000 in
set_option maxRecDepth 100000 in
theorem impl_WinnerByWalk.calls (k : Nat) (a0 : Int) (a1 : Int) (A2 : Option Addr) (c2 : Nat) (l2 : List Int) (r1 : Int) (r2 : Bool) (w : World) (hr2 : Kd.C (Kd.int .i64) w A2 l2.length l2) (hc2 : l2.length ≤ c2) (h : impl_WinnerByWalk.f k a0 a1 l2 = some (r1, r2)) :
    Calls Try.prog 10 #[.int .i64 a0, .int .i64 a1, .slice A2 l2.length c2] w fun e w' => e = .returned (.tuple #[.int .i64 r1, .bool r2]) ∧ Below w.heap.size w w' := by
  have hu1 := Try.underlying39
  have hu2 := Try.underlying38
  have hu3 := Try.underlying35
  unfold impl_WinnerByWalk.f at h
  obtain ⟨t, ht, h⟩ := Option.bind_eq_some_iff.mp h
  have HR := Aside0.mk hr2
  have HC := Aside0.mk hc2
  have HT := Aside0.mk ht
  clear hr2 hc2 ht
  cases t with
  | false =>
    rw [if_neg (by decide)] at h
    injection h with h
    injection h with e1 e2
    subst e1
    subst e2
    go_enter Try.func10, Try.ntmps10
    go_wp2_with (go_at_call 17; refine (impl_isFullBoard.calls k a0 a1 A2 c2 l2 false _ (by first | exact HR.out | exact Kd.C_drewN HR.out _) HC.out HT.out).mono ?_; rintro e w' ⟨rfl, ⟨q, rfl⟩⟩)
    go_ret2
    exact ⟨rfl, pw_below_drewN (Below.refl _ _) _⟩
  | true =>
    rw [if_pos rfl] at h
    injection h with h
    injection h with e1 e2
    subst e2
    have hF := full_of HT.out
    obtain ⟨K, sK, hK, hs, hn, he⟩ := walk_end hF
    have WC := fun (W : World) hr => walk_calls a0 a1 hF.1 A2 c2 l2 (ownL a1 l2) (fun a b => player_f hF a b) K sK hs hn hK W hr HC.out
    have HWC := Aside0.mk WC
    clear WC hs hn hK hF
    go_enter Try.func10, Try.ntmps10
    go_wp2_with fail
    refine (impl_isFullBoard.calls k a0 a1 A2 c2 l2 true _ (by first | exact HR.out | exact Kd.C_drewN HR.out _) HC.out HT.out).mono ?_
    rintro e w1 ⟨rfl, ⟨q, rfl⟩⟩
    go_wp2_with fail
    have B1 := Aside0.mk (pw_below_drewN (Below.refl w.heap.size w) q)
    refine (HWC.out _ (by first | exact HR.out | exact Kd.C_drewN HR.out _)).mono ?_
    rintro e w2 ⟨v, L, rfl, HL, hlt, B2⟩
    have BB := Aside0.mk (below_step B1.out (by simpa using B2))
    obtain ⟨b, cap, rfl, hcap, c0, c1, c2', c3⟩ := last_cells HL
    have HLL := Aside0.mk HL
    clear HL B1 B2 HWC
    go_upto_region 5 with fail
    obtain ⟨w3, hw3⟩ : ∃ w3, w3 = w2.alloc (.cells #[.int .i64 sK.a, .int .i64 sK.b, .int .i64 sK.x, .int .i64 sK.y] 39) := ⟨_, rfl⟩
    have K3 := blk_new w2 (.cells #[.int .i64 sK.a, .int .i64 sK.b, .int .i64 sK.x, .int .i64 sK.y] 39)
    rw [← hw3] at K3
    have BB := Aside0.mk (hw3 ▸ below_alloc BB.out (.cells #[.int .i64 sK.a, .int .i64 sK.b, .int .i64 sK.x, .int .i64 sK.y] 39))
    rw [← hw3]
    clear hw3 c0 c1 c2' c3 HLL
    generalize w2.heap.size = zz at K3 ⊢
    have e0 : w3.cell? ⟨zz, 0, none⟩ = some (.int .i64 sK.a) := (blk_cell K3 0).trans rfl
    have e2 : w3.cell? ⟨zz, 2, none⟩ = some (.int .i64 sK.x) := (blk_cell K3 2).trans rfl
    have HB := Aside0.mk (full_of HT.out).1
    clear K3 HR HC HT hcap hlt
    rcases he with ⟨h1, h2, h3⟩ | ⟨h1, h2, h3⟩
    · have n1 : ¬ sK.a = a0 := by have := HB.out; omega
      have n2 : ¬ sK.x = a0 := by have := HB.out; omega
      have H3 := Aside0.mk h3
      have n3 : (sK.a == a0) = false := beq_eq_false_iff_ne.mpr n1
      have n4 : (sK.x == a0) = false := beq_eq_false_iff_ne.mpr n2
      clear h1 h2 h3
      go_wp2
      go_ret2
      exact ⟨by rw [← e1, H3.out]; rfl, BB.out⟩
    · have H3 := Aside0.mk h3
      have n1 : sK.a = a0 := h1
      have n3 : (sK.a == a0) = true := beq_iff_eq.mpr h1
      clear h1 h2 h3
      go_wp2
      go_ret2
      exact ⟨by rw [← e1, H3.out]; rfl, BB.out⟩
end Go.Proofs.Ytmfocekebenniaa.Given
