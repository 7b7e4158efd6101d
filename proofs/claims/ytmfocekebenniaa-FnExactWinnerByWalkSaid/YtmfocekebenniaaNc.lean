/- slices.IndexFunc and slices.DeleteFunc over places with the walk's closure, by hand; for lists of at most two places. -/
import Derived.Test.YtmfocekebenniaaNb
import Derived.Lib.SliceRun
namespace Go.Proofs.Ytmfocekebenniaa.Given
open Go.Proofs.Ytmfocekebenniaa.Q Go.RowKit Go.Proofs.YtmfocekebenniaaW.PrintWords Go.Proofs.YtmfocekebenniaaW.PrintLast Go.Proofs.YtmfocekebenniaaW.PrintMore Go.Lib
set_option linter.unusedVariables false
set_option linter.unusedSimpArgs false

def plEq (p : Pl) (m0 m1 : Int) : Bool := p.f0 == m0 && p.f1 == m1
set_option maxHeartbeats 4000000 in
theorem clos_calls (x y m0 m1 : Int) (gb : Nat) (w : World) (h : w.heap[gb]? = some (.cells #[.int .i64 m0, .int .i64 m1] 38 (0, 0))) :
    Calls Try.prog 35 #[.agg #[.int .i64 x, .int .i64 y], .pointer (some ⟨gb, 0, none⟩)] w fun e w' => e = .returned (.bool (x == m0 && y == m1)) ∧ Below w.heap.size w w' := by
  have hu2 := Try.underlying38
  go_enter Try.func35, Try.ntmps35
  have K := blk_alloc h (.cells #[.int .i64 x, .int .i64 y] 38)
  have h0 : (w.alloc (.cells #[.int .i64 x, .int .i64 y] 38)).cell? ⟨gb, 0, none⟩ = some (.int .i64 m0) := (blk_cell K 0).trans rfl
  have h1 : (w.alloc (.cells #[.int .i64 x, .int .i64 y] 38)).cell? ⟨gb, 1, none⟩ = some (.int .i64 m1) := (blk_cell K 1).trans rfl
  have K2 := blk_new w (.cells #[.int .i64 x, .int .i64 y] 38)
  have h2 : (w.alloc (.cells #[.int .i64 x, .int .i64 y] 38)).cell? ⟨w.heap.size, 0, none⟩ = some (.int .i64 x) := (blk_cell K2 0).trans rfl
  have h3 : (w.alloc (.cells #[.int .i64 x, .int .i64 y] 38)).cell? ⟨w.heap.size, 1, none⟩ = some (.int .i64 y) := (blk_cell K2 1).trans rfl
  have B := Aside0.mk (below_alloc (Below.refl w.heap.size w) (.cells #[.int .i64 x, .int .i64 y] 38))
  clear K K2
  cases hq : (x == m0 && y == m1) with
  | true =>
    have hq2 : x = m0 ∧ y = m1 := by simpa using hq
    obtain ⟨rfl, rfl⟩ := hq2
    clear hq
    go_wp2
    all_goals go_ret
    all_goals exact ⟨rfl, below_alloc (Below.refl _ _) _⟩
  | false =>
    have hq2 : ¬ (x = m0 ∧ y = m1) := by simpa using hq
    go_wp2
    all_goals go_ret
    all_goals exact ⟨rfl, below_alloc (Below.refl _ _) _⟩

set_option maxHeartbeats 4000000 in
theorem IndexFunc_pl (g : Nat) (lb : Array Value) (eg : ∀ args w, (callFunc g args).run Try.prog w = .ok (.enter g args) w) (l : List Pl) (b cap : Nat) (m0 m1 : Int) (w : World) (hC : Kd.C k76 w (some ⟨b, 0, none⟩) l.length l) (hl : l.length ≤ 2)
    (hp : ∀ (x y : Int) (W' : World), Below w.heap.size w W' → Calls Try.prog g (#[.agg #[.int .i64 x, .int .i64 y]] ++ lb) W' fun e w' => e = .returned (.bool (x == m0 && y == m1)) ∧ Below W'.heap.size W' w') :
    Calls Try.prog 44 #[.slice (some ⟨b, 0, none⟩) l.length cap, .func (.func g) #[] lb] w fun e w' => ∃ r : Int, e = .returned (.int .i64 r) ∧ Below w.heap.size w w' ∧
      ((r = -1 ∧ ∀ j, j < l.length → plEq (rd_T76 l (j : Nat)) m0 m1 = false) ∨ ∃ k : Nat, k < l.length ∧ r = k ∧ plEq (rd_T76 l (k : Nat)) m0 m1 = true ∧ ∀ j, j < k → plEq (rd_T76 l (j : Nat)) m0 m1 = false) := by
  have hu2 := Try.underlying38
  have HC := Aside0.mk hC
  have HP := Aside0.mk hp
  clear hC hp
  go_enter Try.func44, Try.ntmps44
  go_wp2
  go_loopg [5, 8] l.length (fun gg _ s8 wr => ∃ kk : Nat, kk ≤ l.length ∧ l.length - kk ≤ gg ∧ s8 = .int .i64 kk ∧ Aside0 (Below w.heap.size w wr) ∧ Aside0 (∀ j, j < kk → plEq (rd_T76 l (j : Nat)) m0 m1 = false))
  case atStart => exact ⟨0, Nat.zero_le _, by omega, rfl, ⟨Below.refl _ _⟩, ⟨fun j hj => absurd hj (Nat.not_lt_zero _)⟩⟩
  case round =>
    obtain ⟨kk, hkk, hg, rfl, BB, M⟩ := hrel
    by_cases hlt : kk < l.length
    · have hltz : (kk : Int) < (l.length : Int) := by omega
      obtain ⟨ad, ead, hx0, hx1⟩ := at_T76 (Kd.C_below HC.out BB.out) (kk : Int) (by omega) (by omega)
      cases ead
      rw [add_at, Int.toNat_natCast] at hx0 hx1
      replace hx1 : wr.cell? ⟨b, kk * 2 + 1, none⟩ = some (.int .i64 (rd_T76 l (kk : Nat)).f1) := hx1
      have MK := Aside0.mk (show plEq (rd_T76 l (kk : Nat)) m0 m1 = ((rd_T76 l (kk : Nat)).f0 == m0 && (rd_T76 l (kk : Nat)).f1 == m1) from rfl)
      generalize (rd_T76 l (kk : Nat)).f0 = x at hx0 hx1 MK
      generalize (rd_T76 l (kk : Nat)).f1 = y at hx0 hx1 MK
      have hcall := HP.out x y wr BB.out
      obtain ⟨q, hq⟩ : ∃ q, (x == m0 && y == m1) = q := ⟨_, rfl⟩
      rw [hq] at hcall MK
      clear hq
      cases q with
      | true =>
        go_wp2_with fail
        refine hcall.mono ?_
        rintro e w' ⟨rfl, B7⟩
        have BB := Aside0.mk (below_step BB.out B7)
        clear B7 hcall
        go_wp2
        go_ret
        exact ⟨_, rfl, BB.out, .inr ⟨kk, hlt, rfl, MK.out, M.out⟩⟩
      | false =>
        go_wp2_with fail
        refine hcall.mono ?_
        rintro e w' ⟨rfl, B7⟩
        have BB := Aside0.mk (below_step BB.out B7)
        clear B7 hcall
        go_wp2
        go_roundg (l.length - (kk + 1))
        case measure => omega
        case rel =>
          refine ⟨kk + 1, by omega, by omega, by go_num, BB, ⟨fun j hj => ?_⟩⟩
          by_cases e : j = kk
          · subst e
            exact MK.out
          · exact M.out j (by omega)
    · have hltz : ¬ (kk : Int) < (l.length : Int) := by omega
      have hk : kk = l.length := by omega
      have HK := Aside0.mk hk
      clear hk
      go_wp2
      go_ret
      exact ⟨_, rfl, BB.out, .inl ⟨rfl, by rw [← HK.out]; exact M.out⟩⟩

theorem arr_lt {cs : Array Value} {i : Nat} {v : Value} (h : cs[i]? = some v) : i < cs.size := by
  rcases Nat.lt_or_ge i cs.size with h' | h'
  · exact h'
  · rw [Array.getElem?_eq_none h'] at h; cases h
theorem run_clear_pair {P : Program} (w : World) (t e ty : TypeId) (z x y : Value) (ht : P.underlying t = some (.slice e)) (hv : ∀ w, (zeroValue e).run P w = .ok z w) (hz : z.cells = #[x, y]) (h1 : x.oneCell' = true) (h2 : y.oneCell' = true) (b o c : Nat)
    (hc : ∀ j, j < 2 → (w.cell? ⟨b, o + j, none⟩).isSome = true) (hf : ∀ j, j < 2 → w.frozen? ⟨b, o + j, none⟩ = false) :
    (Builtin.clear_ #[t] ty #[.slice (some ⟨b, o, none⟩) 1 c]).run P w = .ok (.tuple #[]) (w.setCells b o [x, y]) := by
  have hzc : (Builtin.zeroCells z.cells 1).toList = [x, y] := by
    rw [hz]
    simp [Builtin.zeroCells]
    rfl
  have hst := run_storeCells_cells (P := P) b o [x, y] 0 w (by simpa using hc) (by simpa using hf) (by intro v hv'; simp at hv'; rcases hv' with rfl | rfl <;> assumption)
  simp only [Nat.add_zero] at hst
  simp [Builtin.clear_, run_underlying ht, hv, hzc, hst]
theorem zero_pl (w : World) : (zeroValue 38).run Try.prog w = .ok (.agg #[.int .i64 0, .int .i64 0]) w := by first | rfl | kernel_rfl | go_simp

set_option maxHeartbeats 8000000 in
theorem Del_D (g : Nat) (lb : Array Value) (eg : ∀ args w, (callFunc g args).run Try.prog w = .ok (.enter g args) w) (p0 p1 x y : Int) (b cap : Nat) (m0 m1 : Int) (w : World) (cur : Array Value)
    (hb : w.heap[b]? = some (.cells cur 38 (0, 0))) (h0 : cur[0]? = some (.int .i64 p0)) (h1 : cur[1]? = some (.int .i64 p1)) (h2 : cur[2]? = some (.int .i64 x)) (h3 : cur[3]? = some (.int .i64 y)) (hcap : 2 ≤ cap)
    (hI : Calls Try.prog 44 #[.slice (some ⟨b, 0, none⟩) 2 cap, .func (.func g) #[] lb] w fun e w' => e = .returned (.int .i64 0) ∧ Below w.heap.size w w')
    (hp : ∀ (W' : World), Below w.heap.size w W' → Calls Try.prog g (#[.agg #[.int .i64 x, .int .i64 y]] ++ lb) W' fun e w' => e = .returned (.bool false) ∧ Below W'.heap.size W' w') :
    Calls Try.prog 33 #[.slice (some ⟨b, 0, none⟩) 2 cap, .func (.func g) #[] lb] w fun e w' => e = .returned (.slice (some ⟨b, 0, none⟩) 1 cap) ∧ Below b w w' ∧ w'.cell? ⟨b, 0, none⟩ = some (.int .i64 x) ∧ w'.cell? ⟨b, 1, none⟩ = some (.int .i64 y) := by
  have hu2 := Try.underlying38
  have HB := Aside0.mk hb
  have HP := Aside0.mk hp
  have H0 := Aside0.mk h0
  have H1 := Aside0.mk h1
  have H2 := Aside0.mk h2
  have H3 := Aside0.mk h3
  clear hb hp h0 h1 h2 h3
  go_enter Try.func33, Try.ntmps33
  go_wp2_with fail
  refine hI.mono ?_
  rintro e w1 ⟨rfl, B1⟩
  have BB := Aside0.mk B1
  clear B1 hI
  go_wp2
  go_loopg [5, 6, 7] 1 (fun gg s5 s6 _ wr => (s5 = .int .i64 0 ∧ s6 = .int .i64 1 ∧ gg = 1 ∧ Aside0 (Below w.heap.size w wr)) ∨ (s5 = .int .i64 1 ∧ s6 = .int .i64 2 ∧ gg = 0 ∧ Aside0 (Below b w wr ∧ ∃ c2 : Array Value, wr.heap[b]? = some (.cells c2 38 (0, 0)) ∧ c2[0]? = some (.int .i64 x) ∧ c2[1]? = some (.int .i64 y) ∧ c2.size = cur.size)))
  case atStart => exact .inl ⟨rfl, by go_num, rfl, BB⟩
  case round =>
    rcases hrel with ⟨rfl, rfl, rfl, BB⟩ | ⟨rfl, rfl, rfl, BB⟩
    · have K := blk_below HB.out BB.out
      have c2 : wr.cell? ⟨b, 2, none⟩ = some (.int .i64 x) := (blk_cell K 2).trans H2.out
      have c3 : wr.cell? ⟨b, 3, none⟩ = some (.int .i64 y) := (blk_cell K 3).trans H3.out
      have KK := Aside0.mk K
      clear K
      go_wp2_with fail
      have K3 := Aside0.mk (blk_new wr (.cells #[.int .i64 x, .int .i64 y] 38))
      have BA := Aside0.mk (below_alloc (Below.refl wr.heap.size wr) (.cells #[.int .i64 x, .int .i64 y] 38))
      have BA2 := Aside0.mk (below_alloc BB.out (.cells #[.int .i64 x, .int .i64 y] 38))
      have KA := Aside0.mk (blk_alloc KK.out (.cells #[.int .i64 x, .int .i64 y] 38))
      refine (HP.out _ BA2.out).mono ?_
      rintro e w4 ⟨rfl, B4⟩
      have K4 := blk_below K3.out B4
      have K5 := blk_below KA.out B4
      have BB4 := Aside0.mk (below_step BA2.out B4)
      generalize wr.heap.size = zz at K4 ⊢
      have d0 : w4.cell? ⟨zz, 0, none⟩ = some (.int .i64 x) := (blk_cell K4 0).trans rfl
      have d1 : w4.cell? ⟨zz, 1, none⟩ = some (.int .i64 y) := (blk_cell K4 1).trans rfl
      have e0 : w4.cell? ⟨b, 0, none⟩ = some (.int .i64 p0) := (blk_cell K5 0).trans H0.out
      have e1 : w4.cell? ⟨b, 1, none⟩ = some (.int .i64 p1) := (blk_cell K5 1).trans H1.out
      have f0 := blk_frozen K5 0
      have f1 := blk_frozen K5 1
      have KS := Aside0.mk K5
      clear K3 BA BA2 KA B4 K4 K5 KK BB c2 c3
      go_wp2
      go_roundg 0
      case measure => omega
      case rel =>
        refine .inr ⟨rfl, rfl, rfl, ⟨⟨(BB4.out.mono (Nat.le_of_lt (blk_lt HB.out))).setCell (p := ⟨b, 0, none⟩) (Nat.le_refl _) _ |>.setCell (p := ⟨b, 1, none⟩) (Nat.le_refl _) _, (cur.setIfInBounds 0 (.int .i64 x)).setIfInBounds 1 (.int .i64 y), heap_setCell_same _ b 1 _ _ _ (heap_setCell_same _ b 0 _ _ _ KS.out), ?_, ?_, by simp⟩⟩⟩
        · have h9 := arr_lt H1.out
          rw [Array.getElem?_setIfInBounds, if_neg (by omega), Array.getElem?_setIfInBounds, if_pos rfl, if_pos (by omega)]
        · have h9 := arr_lt H1.out
          simp [Array.getElem?_setIfInBounds, h9]
    · obtain ⟨BB, c2, K, z0, z1, hz⟩ := BB.out
      have hcl : ∀ ty, (Builtin.clear_ #[55] ty #[.slice (some ⟨b, 2, none⟩) 1 (cap - 1)]).run Try.prog wr = .ok (.tuple #[]) (wr.setCells b 2 [.int .i64 0, .int .i64 0]) := fun ty => by
        refine run_clear_pair wr _ _ ty _ _ _ Try.underlying55 zero_pl rfl rfl rfl b 2 _ (fun j hj => ?_) (fun j hj => blk_frozen K _)
        rw [blk_cell K]
        have h9 := arr_lt H3.out
        rw [Array.getElem?_eq_getElem (by omega)]
        rfl
      have HC2 := Aside0.mk K
      have HZ0 := Aside0.mk z0
      have HZ1 := Aside0.mk z1
      have BB := Aside0.mk BB
      clear K z0 z1 hz
      go_wp2
      go_ret
      have hk : (wr.setCells b 2 [.int .i64 0, .int .i64 0]).heap[b]? = some (.cells ((c2.setIfInBounds 2 (.int .i64 0)).setIfInBounds 3 (.int .i64 0)) 38 (0, 0)) := heap_setCell_same _ b 3 _ _ _ (heap_setCell_same _ b 2 _ _ _ HC2.out)
      refine ⟨rfl, (BB.out.setCell (p := ⟨b, 2, none⟩) (Nat.le_refl _) _).setCell (p := ⟨b, 3, none⟩) (Nat.le_refl _) _, ?_, ?_⟩
      · rw [blk_cell hk]
        simpa [Array.getElem?_setIfInBounds] using HZ0.out
      · rw [blk_cell hk]
        simpa [Array.getElem?_setIfInBounds] using HZ1.out
set_option maxHeartbeats 8000000 in
theorem Del_none (g : Nat) (lb : Array Value) (eg : ∀ args w, (callFunc g args).run Try.prog w = .ok (.enter g args) w) (b n cap : Nat) (w : World)
    (hI : Calls Try.prog 44 #[.slice (some ⟨b, 0, none⟩) n cap, .func (.func g) #[] lb] w fun e w' => e = .returned (.int .i64 (-1)) ∧ Below w.heap.size w w') :
    Calls Try.prog 33 #[.slice (some ⟨b, 0, none⟩) n cap, .func (.func g) #[] lb] w fun e w' => e = .returned (.slice (some ⟨b, 0, none⟩) n cap) ∧ Below w.heap.size w w' := by
  go_enter Try.func33, Try.ntmps33
  go_wp2_with fail
  refine hI.mono ?_
  rintro e w1 ⟨rfl, B1⟩
  have BB := Aside0.mk B1
  clear B1 hI
  go_wp2
  go_ret
  exact ⟨rfl, BB.out⟩

set_option maxHeartbeats 8000000 in
theorem Del_B (g : Nat) (lb : Array Value) (eg : ∀ args w, (callFunc g args).run Try.prog w = .ok (.enter g args) w) (p0 p1 : Int) (b cap : Nat) (w : World) (cur : Array Value)
    (hb : w.heap[b]? = some (.cells cur 38 (0, 0))) (h0 : cur[0]? = some (.int .i64 p0)) (h1 : cur[1]? = some (.int .i64 p1)) (hcap : 1 ≤ cap)
    (hI : Calls Try.prog 44 #[.slice (some ⟨b, 0, none⟩) 1 cap, .func (.func g) #[] lb] w fun e w' => e = .returned (.int .i64 0) ∧ Below w.heap.size w w') :
    Calls Try.prog 33 #[.slice (some ⟨b, 0, none⟩) 1 cap, .func (.func g) #[] lb] w fun e w' => e = .returned (.slice (some ⟨b, 0, none⟩) 0 cap) ∧ Below b w w' := by
  have HB := Aside0.mk hb
  have H1 := Aside0.mk h1
  clear hb h0 h1
  go_enter Try.func33, Try.ntmps33
  go_wp2_with fail
  refine hI.mono ?_
  rintro e w1 ⟨rfl, B1⟩
  have BB := Aside0.mk B1
  clear B1 hI
  go_wp2
  go_loopg [5, 6, 7] 0 (fun gg s5 s6 _ wr => s5 = .int .i64 0 ∧ s6 = .int .i64 1 ∧ gg = 0 ∧ Aside0 (Below w.heap.size w wr))
  case atStart => exact ⟨rfl, by go_num, rfl, BB⟩
  case round =>
    obtain ⟨rfl, rfl, rfl, BB⟩ := hrel
    have K := blk_below HB.out BB.out
    have hcl : ∀ ty, (Builtin.clear_ #[55] ty #[.slice (some ⟨b, 0, none⟩) 1 cap]).run Try.prog wr = .ok (.tuple #[]) (wr.setCells b 0 [.int .i64 0, .int .i64 0]) := fun ty => by
      refine run_clear_pair wr _ _ ty _ _ _ Try.underlying55 zero_pl rfl rfl rfl b 0 _ (fun j hj => ?_) (fun j hj => blk_frozen K _)
      rw [blk_cell K]
      have h9 := arr_lt H1.out
      rw [Array.getElem?_eq_getElem (by omega)]
      rfl
    clear K
    go_wp2
    go_ret
    exact ⟨rfl, ((BB.out.mono (Nat.le_of_lt (blk_lt HB.out))).setCell (p := ⟨b, 0, none⟩) (Nat.le_refl _) _).setCell (p := ⟨b, 1, none⟩) (Nat.le_refl _) _⟩

set_option maxHeartbeats 8000000 in
theorem Del_E (g : Nat) (lb : Array Value) (eg : ∀ args w, (callFunc g args).run Try.prog w = .ok (.enter g args) w) (x y : Int) (b cap : Nat) (w : World) (cur : Array Value) (v : Value)
    (hb : w.heap[b]? = some (.cells cur 38 (0, 0))) (h0 : cur[0]? = some (.int .i64 x)) (h1 : cur[1]? = some (.int .i64 y)) (h3 : cur[3]? = some v) (hcap : 2 ≤ cap)
    (hI : Calls Try.prog 44 #[.slice (some ⟨b, 0, none⟩) 2 cap, .func (.func g) #[] lb] w fun e w' => e = .returned (.int .i64 1) ∧ Below w.heap.size w w') :
    Calls Try.prog 33 #[.slice (some ⟨b, 0, none⟩) 2 cap, .func (.func g) #[] lb] w fun e w' => e = .returned (.slice (some ⟨b, 0, none⟩) 1 cap) ∧ Below b w w' ∧ w'.cell? ⟨b, 0, none⟩ = some (.int .i64 x) ∧ w'.cell? ⟨b, 1, none⟩ = some (.int .i64 y) := by
  have HB := Aside0.mk hb
  have H0 := Aside0.mk h0
  have H1 := Aside0.mk h1
  have H3 := Aside0.mk h3
  clear hb h0 h1 h3
  go_enter Try.func33, Try.ntmps33
  go_wp2_with fail
  refine hI.mono ?_
  rintro e w1 ⟨rfl, B1⟩
  have BB := Aside0.mk B1
  clear B1 hI
  go_wp2
  go_loopg [5, 6, 7] 0 (fun gg s5 s6 _ wr => s5 = .int .i64 1 ∧ s6 = .int .i64 2 ∧ gg = 0 ∧ Aside0 (Below w.heap.size w wr))
  case atStart => exact ⟨rfl, by go_num, rfl, BB⟩
  case round =>
    obtain ⟨rfl, rfl, rfl, BB⟩ := hrel
    have K := blk_below HB.out BB.out
    have hcl : ∀ ty, (Builtin.clear_ #[55] ty #[.slice (some ⟨b, 2, none⟩) 1 (cap - 1)]).run Try.prog wr = .ok (.tuple #[]) (wr.setCells b 2 [.int .i64 0, .int .i64 0]) := fun ty => by
      refine run_clear_pair wr _ _ ty _ _ _ Try.underlying55 zero_pl rfl rfl rfl b 2 _ (fun j hj => ?_) (fun j hj => blk_frozen K _)
      rw [blk_cell K]
      have h9 := arr_lt H3.out
      rw [Array.getElem?_eq_getElem (by omega)]
      rfl
    have HK := Aside0.mk K
    clear K
    go_wp2
    go_ret
    have hk : (wr.setCells b 2 [.int .i64 0, .int .i64 0]).heap[b]? = some (.cells ((cur.setIfInBounds 2 (.int .i64 0)).setIfInBounds 3 (.int .i64 0)) 38 (0, 0)) := heap_setCell_same _ b 3 _ _ _ (heap_setCell_same _ b 2 _ _ _ HK.out)
    refine ⟨rfl, ((BB.out.mono (Nat.le_of_lt (blk_lt HB.out))).setCell (p := ⟨b, 2, none⟩) (Nat.le_refl _) _).setCell (p := ⟨b, 3, none⟩) (Nat.le_refl _) _, ?_, ?_⟩
    · rw [blk_cell hk]
      simpa [Array.getElem?_setIfInBounds] using H0.out
    · rw [blk_cell hk]
      simpa [Array.getElem?_setIfInBounds] using H1.out

end Go.Proofs.Ytmfocekebenniaa.Given
