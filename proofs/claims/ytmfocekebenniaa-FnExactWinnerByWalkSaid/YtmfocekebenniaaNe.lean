/- rimmed.walk by hand: the doors of the walk, the last one told; for all full boards. -/
import Derived.Test.YtmfocekebenniaaNf
import Derived.Test.YtmfocekebenniaaGa
import Derived.Test.YtmfocekebenniaaQx5
namespace Go.Proofs.Ytmfocekebenniaa.Given
open Go.Proofs.Ytmfocekebenniaa.Q Go.RowKit Go.Proofs.YtmfocekebenniaaW.PrintWords Go.Proofs.YtmfocekebenniaaW.PrintLast Go.Proofs.YtmfocekebenniaaW.PrintMore Go.Lib
set_option linter.unusedVariables false
set_option linter.unusedSimpArgs false
abbrev StD := Go.Proofs.Ytmfocekebenniaa.Hw.St
def kD : Kd StD := Kd.iso (Kd.pair k76 k76) (fun s : StD => ((⟨s.a, s.b⟩ : Pl), (⟨s.x, s.y⟩ : Pl)))
theorem kD_mkM (w : World) (base : Nat) (ok : Nat → Prop) (s : StD) : kD.M w base ok s [.int .i64 s.a, .int .i64 s.b, .int .i64 s.x, .int .i64 s.y] :=
  ⟨[.int .i64 s.a, .int .i64 s.b], [.int .i64 s.x, .int .i64 s.y], rfl, k76_mkM w base ok ⟨s.a, s.b⟩, k76_mkM w base ok ⟨s.x, s.y⟩⟩
theorem kD_open {w : World} {s : StD} {cs : List Value} (h : kD.K w s cs) : cs = [.int .i64 s.a, .int .i64 s.b, .int .i64 s.x, .int .i64 s.y] := by
  obtain ⟨c0, c1, rfl, h0, h1⟩ := h
  obtain rfl := k76_open h0
  obtain rfl := k76_open h1
  rfl
theorem infoD : (Try.prog.info? 39).map (fun i => (i.zero, i.size, i.bytes)) = some (some (.agg #[.int .i64 0, .int .i64 0, .int .i64 0, .int .i64 0]), 4, 32) := by kernel_rfl
theorem set2 {w : World} {g : Nat} {x0 x1 : Value} {t : TypeId} (h : w.heap[g]? = some (.cells #[x0, x1] t (0, 0))) (u v : Value) : ((w.setCell ⟨g, 0, none⟩ u).setCell ⟨g, 1, none⟩ v).heap[g]? = some (.cells #[u, v] t (0, 0)) := by
  have h2 := heap_setCell_same _ g 1 _ _ v (heap_setCell_same _ g 0 _ _ u h)
  simpa using h2
theorem set2_far {w : World} {g g' : Nat} (hne : g' ≠ g) (u v : Value) : ((w.setCell ⟨g, 0, none⟩ u).setCell ⟨g, 1, none⟩ v).heap[g']? = w.heap[g']? :=
  (Below.heap_setCell _ ⟨g, 1, none⟩ v g' hne).trans (Below.heap_setCell _ ⟨g, 0, none⟩ u g' hne)
/-- The boxes of the walk: the board, the door's two places, the place before. -/
def Wx (R C : Int) (A0 : Option Addr) (n0 c0 : Nat) (s : StD) (m0 m1 : Int) (N : Nat) (W : World) : Prop :=
  W.heap[N]? = some (.cells #[.int .i64 R, .int .i64 C, .slice A0 n0 c0] 35 (0, 0)) ∧ W.heap[N + 1]? = some (.cells #[.int .i64 s.a, .int .i64 s.b] 38 (0, 0)) ∧ W.heap[N + 1 + 1]? = some (.cells #[.int .i64 s.x, .int .i64 s.y] 38 (0, 0)) ∧ W.heap[N + 1 + 1 + 1]? = some (.cells #[.int .i64 m0, .int .i64 m1] 38 (0, 0))
theorem litD (W : World) (s : StD) (base : Nat) (ok : Nat → Prop) (h : base ≤ W.heap.size) (hk : ok W.heap.size) : Kd.R kD 39 (W.alloc (.cells #[.int .i64 s.a, .int .i64 s.b, .int .i64 s.x, .int .i64 s.y] 39)) base ok (.slice (some ⟨W.heap.size, 0, none⟩) 1 1) [s] := by
  refine ⟨fun k hk' => ?_, [.int .i64 s.a, .int .i64 s.b, .int .i64 s.x, .int .i64 s.y], ?_, ⟨rfl, fun j p hj => ?_⟩⟩
  · have : W.heap.size = k := by simpa [Value.ownBlock] using hk'
    subst this
    exact hk
  · have h2 := World.ownsRow_lit (base := base) (e := 39) (size := kD.sz) W #[.int .i64 s.a, .int .i64 s.b, .int .i64 s.x, .int .i64 s.y] 1 h (by decide) rfl
    simpa using h2
  · match j, hj with
    | 0, hj =>
      injection hj with hj
      subst hj
      exact kD_mkM _ _ _ s
    | j + 1, hj => simp at hj
theorem Wx.keep {R C : Int} {A0 : Option Addr} {n0 c0 : Nat} {s : StD} {m0 m1 : Int} {N : Nat} {W W' : World} (h : Wx R C A0 n0 c0 s m0 m1 N W) (hk : ∀ k, k < N + 4 → W'.heap[k]? = W.heap[k]?) : Wx R C A0 n0 c0 s m0 m1 N W' :=
  ⟨(hk N (by omega)).trans h.1, (hk (N + 1) (by omega)).trans h.2.1, (hk (N + 1 + 1) (by omega)).trans h.2.2.1, (hk (N + 1 + 1 + 1) (by omega)).trans h.2.2.2⟩
theorem Wx.lt {R C : Int} {A0 : Option Addr} {n0 c0 : Nat} {s : StD} {m0 m1 : Int} {N : Nat} {W : World} (h : Wx R C A0 n0 c0 s m0 m1 N W) : N + 3 < W.heap.size := blk_lt h.2.2.2
theorem Wx.below {R C : Int} {A0 : Option Addr} {n0 c0 : Nat} {s : StD} {m0 m1 : Int} {N B : Nat} {W W' : World} (h : Wx R C A0 n0 c0 s m0 m1 N W) (hb : Below B W W') (hB : N + 3 < B) : Wx R C A0 n0 c0 s m0 m1 N W' :=
  h.keep fun k hk => hb.block k (by omega)
theorem wx_new (R C : Int) (A0 : Option Addr) (n0 c0 : Nat) (w : World) (o : Obj) : Wx R C A0 n0 c0 st0 (-9) (-9) w.heap.size (((((w.alloc (.cells #[.int .i64 R, .int .i64 C, .slice A0 n0 c0] 35)).alloc (.cells #[.int .i64 (-1), .int .i64 (-1)] 38)).alloc (.cells #[.int .i64 0, .int .i64 (-1)] 38)).alloc (.cells #[.int .i64 (-9), .int .i64 (-9)] 38)).alloc o) := by
  refine ⟨blk_alloc (blk_alloc (blk_alloc (blk_alloc (blk_new _ _) _) _) _) _, blk_alloc (blk_alloc (blk_alloc ?_ _) _) _, blk_alloc (blk_alloc ?_ _) _, blk_alloc ?_ _⟩
  · have := blk_new (w.alloc (.cells #[.int .i64 R, .int .i64 C, .slice A0 n0 c0] 35)) (.cells #[.int .i64 (-1), .int .i64 (-1)] 38)
    simpa [st0, Hw.start] using this
  · have := blk_new ((w.alloc (.cells #[.int .i64 R, .int .i64 C, .slice A0 n0 c0] 35)).alloc (.cells #[.int .i64 (-1), .int .i64 (-1)] 38)) (.cells #[.int .i64 0, .int .i64 (-1)] 38)
    simpa [st0, Hw.start] using this
  · have := blk_new (((w.alloc (.cells #[.int .i64 R, .int .i64 C, .slice A0 n0 c0] 35)).alloc (.cells #[.int .i64 (-1), .int .i64 (-1)] 38)).alloc (.cells #[.int .i64 0, .int .i64 (-1)] 38)) (.cells #[.int .i64 (-9), .int .i64 (-9)] 38)
    simpa [st0, Hw.start] using this
theorem seq_at {R C : Int} {one : Int → Int → Bool} {s0 sK : StD} {K kk : Nat} (hK : Hw.seq R C one s0 K = some sK) (hlt : kk < K) {s : StD} (hs : Hw.seq R C one s0 kk = some s) : ∃ t, Hw.next R C one s = some t ∧ Hw.seq R C one s0 (kk + 1) = some t := by
  have h := Hw.seq_less (R := R) (C := C) (one := one) (s0 := s0) (k := K) (by rw [hK]; rfl) (kk + 1) hlt
  cases ht : Hw.seq R C one s0 (kk + 1) with
  | none => rw [ht] at h; cases h
  | some t =>
    obtain ⟨s', hs', hn⟩ := Option.bind_eq_some_iff.mp ht
    rw [hs] at hs'
    cases hs'
    exact ⟨t, hn, rfl⟩
theorem clos_all (gb : Nat) (m0 m1 : Int) (w : World) (h : w.heap[gb]? = some (.cells #[.int .i64 m0, .int .i64 m1] 38 (0, 0))) (x y : Int) (W' : World) (hW : Below w.heap.size w W') :
    Calls Try.prog 35 (#[.agg #[.int .i64 x, .int .i64 y]] ++ #[.pointer (some ⟨gb, 0, none⟩)]) W' fun e w' => e = .returned (.bool (x == m0 && y == m1)) ∧ Below W'.heap.size W' w' :=
  clos_calls x y m0 m1 gb W' (blk_below h hW)
set_option maxHeartbeats 16000000 in
set_option maxRecDepth 100000 in
theorem walk_calls (R C : Int) (hd : (1 ≤ R ∧ R ≤ 30) ∧ (1 ≤ C ∧ C ≤ 30)) (A0 : Option Addr) (c0 : Nat) (l0 : List Int) (own : Int → Int → Bool)
    (hpl : ∀ a b, Hw.has R C a b = true → impl_rimmed_player.f R C l0 a b = some (if He.one R C own a b then 1 else 2))
    (K : Nat) (sK : StD) (hK : Hw.seq R C (He.one R C own) st0 K = some sK) (hn : Hw.next R C (He.one R C own) sK = none) (hKl : K < 2000000) (w : World)
    (hr : Kd.C (Kd.int .i64) w A0 l0.length l0) (hc : l0.length ≤ c0) :
    Calls Try.prog 18 #[.agg #[.int .i64 R, .int .i64 C, .slice A0 l0.length c0]] w fun e w' => ∃ v L, e = .returned v ∧ Kd.R kD 39 w' w.heap.size (fun _ => True) v (L ++ [sK]) ∧ L.length < 2000000 ∧ Below w.heap.size w w' := by
  have hu1 := Try.underlying39
  have hu2 := Try.underlying38
  have hu3 := Try.underlying35
  have HR := Aside0.mk hr
  have HC := Aside0.mk hc
  have HPL := Aside0.mk hpl
  have HK := Aside0.mk hK
  have HN := Aside0.mk hn
  clear hr hc hpl hK hn
  obtain ⟨⟨r0, r1⟩, s0, s1⟩ := hd
  have HG := Aside0.mk (Hw.seq_good (He.start_good (own := own) r0 s0).1)
  go_enter Try.func18, Try.ntmps18
  go_upto_region 3 with fail
  have WX0 := Aside0.mk (wx_new R C A0 l0.length c0 w (.cells #[.int .i64 (-1), .int .i64 (-1), .int .i64 0, .int .i64 (-1)] 39))
  have R0 := Aside0.mk (litD ((((w.alloc (.cells #[.int .i64 R, .int .i64 C, .slice A0 l0.length c0] 35)).alloc (.cells #[.int .i64 (-1), .int .i64 (-1)] 38)).alloc (.cells #[.int .i64 0, .int .i64 (-1)] 38)).alloc (.cells #[.int .i64 (-9), .int .i64 (-9)] 38)) st0 w.heap.size (fun k => w.heap.size + 3 < k) (by simp; omega) (by simp))
  have B0 := Aside0.mk (below_alloc (below_alloc (below_alloc (below_alloc (below_alloc (Below.refl w.heap.size w) (.cells #[.int .i64 R, .int .i64 C, .slice A0 l0.length c0] 35)) (.cells #[.int .i64 (-1), .int .i64 (-1)] 38)) (.cells #[.int .i64 0, .int .i64 (-1)] 38)) (.cells #[.int .i64 (-9), .int .i64 (-9)] 38)) (.cells #[.int .i64 (-1), .int .i64 (-1), .int .i64 0, .int .i64 (-1)] 39))
  have R0 := Aside0.mk (show Kd.R kD 39 (((((w.alloc (.cells #[.int .i64 R, .int .i64 C, .slice A0 l0.length c0] 35)).alloc (.cells #[.int .i64 (-1), .int .i64 (-1)] 38)).alloc (.cells #[.int .i64 0, .int .i64 (-1)] 38)).alloc (.cells #[.int .i64 (-9), .int .i64 (-9)] 38)).alloc (.cells #[.int .i64 (-1), .int .i64 (-1), .int .i64 0, .int .i64 (-1)] 39)) w.heap.size (fun k => w.heap.size + 3 < k) (.slice (some ⟨w.heap.size + 1 + 1 + 1 + 1, 0, none⟩) 1 1) ([] ++ [st0]) by simpa [st0, Hw.start] using R0.out)
  go_loopg [6, 7, 8] K (fun gg s6 _ _ wr => ∃ (kk : Nat) (s : StD) (m0 m1 : Int) (L : List StD), kk ≤ K ∧ K - kk ≤ gg ∧ L.length = kk ∧ Aside0 (Hw.seq R C (He.one R C own) st0 kk = some s ∧ Bef R C s m0 m1) ∧ Aside0 (Kd.R kD 39 wr w.heap.size (fun k => w.heap.size + 3 < k) s6 (L ++ [s])) ∧ Aside0 (Below w.heap.size w wr) ∧ Aside0 (Wx R C A0 l0.length c0 s m0 m1 w.heap.size wr))
  case atStart => exact ⟨0, st0, -9, -9, [], by omega, by omega, rfl, ⟨rfl, .inl ⟨rfl, rfl, rfl⟩⟩, R0, B0, WX0⟩
  case round =>
    clear WX0 R0 B0
    obtain ⟨kk, s, m0, m1, L, hkk, hg, hL, SB, RO, BB, WX⟩ := hrel
    obtain ⟨gs1, gs2, gs3, gs4, gs5⟩ := HG.out kk s SB.out.1
    obtain ⟨pf1, pf2, pf3, pf4⟩ := pair_sel r0 s0 gs5 SB.out.2
    have PF := Aside0.mk pf1
    have PF2 := Aside0.mk pf2
    have PF3 := Aside0.mk pf3
    have PF4 := Aside0.mk pf4
    have G1 := Aside0.mk gs1
    have G2 := Aside0.mk gs2
    have hbd : (-1 ≤ s.a ∧ s.a ≤ 30) ∧ (-1 ≤ s.b ∧ s.b ≤ 30) ∧ (-1 ≤ s.x ∧ s.x ≤ 30) ∧ -1 ≤ s.y ∧ s.y ≤ 30 := by
      unfold Hw.has at gs1 gs2
      rw [decide_eq_true_eq] at gs1 gs2
      omega
    have HBD := Aside0.mk hbd
    clear pf1 pf2 pf3 pf4 gs1 gs2 gs3 gs4 gs5 hbd
    have y0 : wr.cell? ⟨w.heap.size, 0, none⟩ = some (.int .i64 R) := (blk_cell WX.out.1 0).trans rfl
    have y1 : wr.cell? ⟨w.heap.size, 1, none⟩ = some (.int .i64 C) := (blk_cell WX.out.1 1).trans rfl
    have y2 : wr.cell? ⟨w.heap.size, 2, none⟩ = some (.slice A0 l0.length c0) := (blk_cell WX.out.1 2).trans rfl
    have y3 : wr.cell? ⟨w.heap.size + 1, 0, none⟩ = some (.int .i64 s.a) := (blk_cell WX.out.2.1 0).trans rfl
    have y4 : wr.cell? ⟨w.heap.size + 1, 1, none⟩ = some (.int .i64 s.b) := (blk_cell WX.out.2.1 1).trans rfl
    have y5 : wr.cell? ⟨w.heap.size + 1 + 1, 0, none⟩ = some (.int .i64 s.x) := (blk_cell WX.out.2.2.1 0).trans rfl
    have y6 : wr.cell? ⟨w.heap.size + 1 + 1, 1, none⟩ = some (.int .i64 s.y) := (blk_cell WX.out.2.2.1 1).trans rfl
    go_wp2_with fail
    refine (thirds_calls R C ⟨⟨r0, r1⟩, s0, s1⟩ A0 c0 l0 s.a s.b s.x s.y HBD.out wr (Kd.C_below HR.out BB.out) HC.out).mono ?_
    rintro e w1 ⟨v, rfl, RT, B1⟩
    have hLT := WX.out.lt
    have RW := Aside0.mk RO.out
    have BW := Aside0.mk BB.out
    have WW := Aside0.mk WX.out
    have WX := Aside0.mk (WX.out.below B1 hLT)
    have HLT := Aside0.mk hLT
    have HRT := Aside0.mk RT
    have HB1 := Aside0.mk B1
    clear y0 y1 y2 y3 y4 y5 y6 RT B1 RO BB hLT
    go_wp2_with fail
    refine (DeleteFunc_pl 35 #[.pointer (some ⟨w.heap.size + 1 + 1 + 1, 0, none⟩)] (enters_of Try.func35 (by kernel_rfl) rfl) _ wr.heap.size v m0 m1 w1 _ HRT.out PF2.out PF3.out PF4.out (fun x y W' hW => clos_all _ m0 m1 w1 WX.out.2.2.2 x y W' hW)).mono ?_
    rintro e w2 ⟨b, cap, n, hn, rfl, PD⟩
    rw [PF.out] at hn PD
    have B2 := Aside0.mk (HB1.out.trans PD.2.1)
    have WX := Aside0.mk (WW.out.below B2.out HLT.out)
    have RO := Aside0.mk (Kd.R_below RW.out B2.out)
    have BB := Aside0.mk (below_step BW.out B2.out)
    have PC := Aside0.mk PD.2.2
    have hcap := PD.1
    clear PD HRT HB1 B2 RW BW WW PF PF2 PF3 PF4
    by_cases hlt : kk < K
    · obtain ⟨t, hnx, hst⟩ := seq_at HK.out hlt SB.out.1
      obtain ⟨hp1, hth, hone⟩ := pick_some hnx
      rw [hp1] at hn hcap PC
      have hn1 : n = 1 := hn
      subst hn1
      have hcap1 : 1 ≤ cap := hcap
      obtain ⟨c0', c1'⟩ := PC.out _ _ rfl
      have BF := Aside0.mk (show (t = ⟨Hw.thr s.a s.b s.x s.y, Hw.thc s.a s.b s.x s.y, s.x, s.y⟩ → Bef R C t s.a s.b) ∧ (t = ⟨s.a, s.b, Hw.thr s.a s.b s.x s.y, Hw.thc s.a s.b s.x s.y⟩ → Bef R C t s.x s.y) from ⟨fun h => h ▸ bef_one G1.out, fun h => h ▸ bef_two G2.out⟩)
      have PL := HPL.out _ _ hth
      have ST := Aside0.mk hst
      clear hnx hst hp1 hth PC hcap hn
      dsimp only at c0' c1'
      generalize Hw.thr s.a s.b s.x s.y = tr at *
      generalize Hw.thc s.a s.b s.x s.y = tc at *
      have HO := Aside0.mk hone
      clear hone
      go_upto_region 7 with fail
      obtain ⟨w3, hw3⟩ : ∃ w3, w3 = w2.alloc (.cells #[.int .i64 tr, .int .i64 tc] 38) := ⟨_, rfl⟩
      have K3 := Aside0.mk (blk_new w2 (.cells #[.int .i64 tr, .int .i64 tc] 38))
      rw [← hw3] at K3
      have hZ := Aside0.mk (show w.heap.size + 3 < w2.heap.size from WX.out.lt)
      have WX := Aside0.mk (show Wx R C A0 l0.length c0 s m0 m1 w.heap.size w3 by rw [hw3]; exact WX.out.keep (fun k hk => Below.heap_alloc w2 _ k (by have := hZ.out; omega)))
      have RO := Aside0.mk (hw3 ▸ Kd.R_alloc RO.out (.cells #[.int .i64 tr, .int .i64 tc] 38))
      have BB := Aside0.mk (hw3 ▸ below_alloc BB.out (.cells #[.int .i64 tr, .int .i64 tc] 38))
      rw [← hw3]
      clear hw3 c0' c1' hcap1
      generalize w2.heap.size = zz at K3 hZ ⊢
      have e0 : w3.cell? ⟨zz, 0, none⟩ = some (.int .i64 tr) := (blk_cell K3.out 0).trans rfl
      have e1 : w3.cell? ⟨zz, 1, none⟩ = some (.int .i64 tc) := (blk_cell K3.out 1).trans rfl
      have y0 : w3.cell? ⟨w.heap.size, 0, none⟩ = some (.int .i64 R) := (blk_cell WX.out.1 0).trans rfl
      have y1 : w3.cell? ⟨w.heap.size, 1, none⟩ = some (.int .i64 C) := (blk_cell WX.out.1 1).trans rfl
      have y2 : w3.cell? ⟨w.heap.size, 2, none⟩ = some (.slice A0 l0.length c0) := (blk_cell WX.out.1 2).trans rfl
      have HOO := HO.out
      cases hq : He.one R C own tr tc with
      | true =>
        rw [hq, if_pos rfl] at PL
        obtain ⟨_, rfl⟩ | ⟨h, _⟩ := HOO
        rotate_left
        · rw [hq] at h; cases h
        clear hq HO
        go_wp2_with fail
        refine (impl_rimmed_player.calls R C A0 c0 l0 tr tc 1 w3 (Kd.C_below HR.out BB.out) HC.out PL).mono ?_
        rintro e w4 ⟨rfl, B4⟩
        have hL3 := WX.out.lt
        have K4 := blk_below K3.out B4
        have WX := Aside0.mk (WX.out.below B4 hL3)
        have RO := Aside0.mk (Kd.R_below RO.out B4)
        have BB := Aside0.mk (below_step BB.out B4)
        have LT4 := Aside0.mk (Nat.lt_of_lt_of_le hL3 B4.size)
        clear B4 y0 y1 y2 e0 e1 PL hL3
        have e0 : w4.cell? ⟨zz, 0, none⟩ = some (.int .i64 tr) := (blk_cell K4 0).trans rfl
        have e1 : w4.cell? ⟨zz, 1, none⟩ = some (.int .i64 tc) := (blk_cell K4 1).trans rfl
        have y3 : w4.cell? ⟨w.heap.size + 1, 0, none⟩ = some (.int .i64 s.a) := (blk_cell WX.out.2.1 0).trans rfl
        have y4 : w4.cell? ⟨w.heap.size + 1, 1, none⟩ = some (.int .i64 s.b) := (blk_cell WX.out.2.1 1).trans rfl
        have y5 : w4.cell? ⟨w.heap.size + 1 + 1, 0, none⟩ = some (.int .i64 s.x) := (blk_cell WX.out.2.2.1 0).trans rfl
        have y6 : w4.cell? ⟨w.heap.size + 1 + 1, 1, none⟩ = some (.int .i64 s.y) := (blk_cell WX.out.2.2.1 1).trans rfl
        have f3 := blk_frozen WX.out.2.1 0
        have f4 := blk_frozen WX.out.2.1 1
        have f5 := blk_frozen WX.out.2.2.1 0
        have f6 := blk_frozen WX.out.2.2.1 1
        have f7 := blk_frozen WX.out.2.2.2 0
        have f8 := blk_frozen WX.out.2.2.2 1
        have y7 : w4.cell? ⟨w.heap.size + 1 + 1 + 1, 0, none⟩ = some (.int .i64 m0) := (blk_cell WX.out.2.2.2 0).trans rfl
        have y8 : w4.cell? ⟨w.heap.size + 1 + 1 + 1, 1, none⟩ = some (.int .i64 m1) := (blk_cell WX.out.2.2.2 1).trans rfl
        clear K4
        go_upto_region 10 with fail
        obtain ⟨w5, hw5⟩ : ∃ w5, w5 = ((((w4.setCell ⟨w.heap.size + 1, 0, none⟩ (.int .i64 tr)).setCell ⟨w.heap.size + 1, 1, none⟩ (.int .i64 tc)).setCell ⟨w.heap.size + 1 + 1 + 1, 0, none⟩ (.int .i64 s.a)).setCell ⟨w.heap.size + 1 + 1 + 1, 1, none⟩ (.int .i64 s.b)) := ⟨_, rfl⟩
        have WX := Aside0.mk (show Wx R C A0 l0.length c0 (⟨tr, tc, s.x, s.y⟩ : StD) s.a s.b w.heap.size w5 by
          rw [hw5]
          refine ⟨?_, ?_, ?_, set2 (by rw [set2_far (by omega)]; exact WX.out.2.2.2) _ _⟩
          · rw [set2_far (by omega), set2_far (by omega)]; exact WX.out.1
          · rw [set2_far (by omega)]; exact set2 WX.out.2.1 _ _
          · rw [set2_far (by omega)]; rw [set2_far (by omega)]; exact WX.out.2.2.1)
        have RO := Aside0.mk (show Kd.R kD 39 w5 w.heap.size (fun k => w.heap.size + 3 < k) u6 (L ++ [s]) by
          rw [hw5]
          exact Kd.R_far (p := ⟨w.heap.size + 1 + 1 + 1, 1, none⟩) (Kd.R_far (p := ⟨w.heap.size + 1 + 1 + 1, 0, none⟩) (Kd.R_far (p := ⟨w.heap.size + 1, 1, none⟩) (Kd.R_far (p := ⟨w.heap.size + 1, 0, none⟩) RO.out (fun k hk => by show k ≠ w.heap.size + 1; omega) _) (fun k hk => by show k ≠ w.heap.size + 1; omega) _) (fun k hk => by show k ≠ w.heap.size + 1 + 1 + 1; omega) _) (fun k hk => by show k ≠ w.heap.size + 1 + 1 + 1; omega) _)
        have BB := Aside0.mk (show Below w.heap.size w w5 by
          rw [hw5]
          exact (((BB.out.setCell (p := ⟨w.heap.size + 1, 0, none⟩) (show w.heap.size ≤ w.heap.size + 1 by omega) _).setCell (p := ⟨w.heap.size + 1, 1, none⟩) (show w.heap.size ≤ w.heap.size + 1 by omega) _).setCell (p := ⟨w.heap.size + 1 + 1 + 1, 0, none⟩) (show w.heap.size ≤ w.heap.size + 1 + 1 + 1 by omega) _).setCell (p := ⟨w.heap.size + 1 + 1 + 1, 1, none⟩) (show w.heap.size ≤ w.heap.size + 1 + 1 + 1 by omega) _)
        rw [← hw5]
        clear hw5 e0 e1 y3 y4 y5 y6 y7 y8 f3 f4 f5 f6 f7 f8 LT4
        have y3 : w5.cell? ⟨w.heap.size + 1, 0, none⟩ = some (.int .i64 tr) := (blk_cell WX.out.2.1 0).trans rfl
        have y4 : w5.cell? ⟨w.heap.size + 1, 1, none⟩ = some (.int .i64 tc) := (blk_cell WX.out.2.1 1).trans rfl
        have y5 : w5.cell? ⟨w.heap.size + 1 + 1, 0, none⟩ = some (.int .i64 s.x) := (blk_cell WX.out.2.2.1 0).trans rfl
        have y6 : w5.cell? ⟨w.heap.size + 1 + 1, 1, none⟩ = some (.int .i64 s.y) := (blk_cell WX.out.2.2.1 1).trans rfl
        have LEN := Aside0.mk (show ((L ++ [s]).length + 1) * 32 ≤ 140737488355328 by rw [List.length_append, List.length_singleton]; omega)
        have FR := Aside0.mk (fun (k : Nat) (hk : w5.heap.size ≤ k) => show w.heap.size + 3 < k from Nat.lt_of_lt_of_le WX.out.lt hk)
        go_wp2_with (at_builtin; go_loud (refine Kd.R_append kD (w0 := w) w.heap.size rfl (.tmp 37) (.tmp 41) 33 39 (.agg #[.int .i64 0, .int .i64 0, .int .i64 0, .int .i64 0]) 32 rfl Try.underlying33 infoD rfl (by decide) (by omega) u6 (L ++ [s]) (⟨tr, tc, s.x, s.y⟩ : StD) [.int .i64 tr, .int .i64 tc, .int .i64 s.x, .int .i64 s.y] (fun k => w.heap.size + 3 < k) (fun _ => False) rfl rfl ?aP1 (fun _ hk => hk.elim) ?aF1 ?aO1 ?aB1 ?aS1 ?aL1 ?_; (case aP1 => exact kD_mkM _ _ _ (⟨tr, tc, s.x, s.y⟩ : StD)); (case aB1 => exact BB.out); (case aF1 => exact FR.out); (case aO1 => exact RO.out); (case aS1 => exact BB.out.size); (case aL1 => exact LEN.out); intro v220 w11 ho hb hg hat; have HO := Aside0.mk ho; have HBB := Aside0.mk hb; have HGR := Aside0.mk hg; clear ho hb hg hat))
        have HK2 := Aside0.mk (fun (k : Nat) (hk : k < w.heap.size + 4) => HGR.out.block k (Nat.lt_of_lt_of_le hk WX.out.lt) (fun he => by have := RO.out.1 k he.symm; omega))
        go_roundg (K - (kk + 1))
        case measure => omega
        case rel => exact ⟨kk + 1, (⟨tr, tc, s.x, s.y⟩ : StD), s.a, s.b, L ++ [s], by omega, by omega, by rw [List.length_append, List.length_singleton, hL], ⟨ST.out, BF.out.1 (by first | rfl | trivial)⟩, HO, HBB, ⟨WX.out.keep HK2.out⟩⟩
      | false =>
        rw [hq, if_neg (by decide)] at PL
        obtain ⟨h, _⟩ | ⟨_, rfl⟩ := HOO
        · rw [hq] at h; cases h
        clear hq HO
        go_wp2_with fail
        refine (impl_rimmed_player.calls R C A0 c0 l0 tr tc 2 w3 (Kd.C_below HR.out BB.out) HC.out PL).mono ?_
        rintro e w4 ⟨rfl, B4⟩
        have hL3 := WX.out.lt
        have K4 := blk_below K3.out B4
        have WX := Aside0.mk (WX.out.below B4 hL3)
        have RO := Aside0.mk (Kd.R_below RO.out B4)
        have BB := Aside0.mk (below_step BB.out B4)
        have LT4 := Aside0.mk (Nat.lt_of_lt_of_le hL3 B4.size)
        clear B4 y0 y1 y2 e0 e1 PL hL3
        have e0 : w4.cell? ⟨zz, 0, none⟩ = some (.int .i64 tr) := (blk_cell K4 0).trans rfl
        have e1 : w4.cell? ⟨zz, 1, none⟩ = some (.int .i64 tc) := (blk_cell K4 1).trans rfl
        have y3 : w4.cell? ⟨w.heap.size + 1, 0, none⟩ = some (.int .i64 s.a) := (blk_cell WX.out.2.1 0).trans rfl
        have y4 : w4.cell? ⟨w.heap.size + 1, 1, none⟩ = some (.int .i64 s.b) := (blk_cell WX.out.2.1 1).trans rfl
        have y5 : w4.cell? ⟨w.heap.size + 1 + 1, 0, none⟩ = some (.int .i64 s.x) := (blk_cell WX.out.2.2.1 0).trans rfl
        have y6 : w4.cell? ⟨w.heap.size + 1 + 1, 1, none⟩ = some (.int .i64 s.y) := (blk_cell WX.out.2.2.1 1).trans rfl
        have f3 := blk_frozen WX.out.2.1 0
        have f4 := blk_frozen WX.out.2.1 1
        have f5 := blk_frozen WX.out.2.2.1 0
        have f6 := blk_frozen WX.out.2.2.1 1
        have f7 := blk_frozen WX.out.2.2.2 0
        have f8 := blk_frozen WX.out.2.2.2 1
        have y7 : w4.cell? ⟨w.heap.size + 1 + 1 + 1, 0, none⟩ = some (.int .i64 m0) := (blk_cell WX.out.2.2.2 0).trans rfl
        have y8 : w4.cell? ⟨w.heap.size + 1 + 1 + 1, 1, none⟩ = some (.int .i64 m1) := (blk_cell WX.out.2.2.2 1).trans rfl
        clear K4
        go_upto_region 10 with fail
        obtain ⟨w5, hw5⟩ : ∃ w5, w5 = ((((w4.setCell ⟨w.heap.size + 1 + 1, 0, none⟩ (.int .i64 tr)).setCell ⟨w.heap.size + 1 + 1, 1, none⟩ (.int .i64 tc)).setCell ⟨w.heap.size + 1 + 1 + 1, 0, none⟩ (.int .i64 s.x)).setCell ⟨w.heap.size + 1 + 1 + 1, 1, none⟩ (.int .i64 s.y)) := ⟨_, rfl⟩
        have WX := Aside0.mk (show Wx R C A0 l0.length c0 (⟨s.a, s.b, tr, tc⟩ : StD) s.x s.y w.heap.size w5 by
          rw [hw5]
          refine ⟨?_, ?_, ?_, set2 (by rw [set2_far (by omega)]; exact WX.out.2.2.2) _ _⟩
          · rw [set2_far (by omega), set2_far (by omega)]; exact WX.out.1
          · rw [set2_far (by omega)]; rw [set2_far (by omega)]; exact WX.out.2.1
          · rw [set2_far (by omega)]; exact set2 WX.out.2.2.1 _ _)
        have RO := Aside0.mk (show Kd.R kD 39 w5 w.heap.size (fun k => w.heap.size + 3 < k) u6 (L ++ [s]) by
          rw [hw5]
          exact Kd.R_far (p := ⟨w.heap.size + 1 + 1 + 1, 1, none⟩) (Kd.R_far (p := ⟨w.heap.size + 1 + 1 + 1, 0, none⟩) (Kd.R_far (p := ⟨w.heap.size + 1 + 1, 1, none⟩) (Kd.R_far (p := ⟨w.heap.size + 1 + 1, 0, none⟩) RO.out (fun k hk => by show k ≠ w.heap.size + 1 + 1; omega) _) (fun k hk => by show k ≠ w.heap.size + 1 + 1; omega) _) (fun k hk => by show k ≠ w.heap.size + 1 + 1 + 1; omega) _) (fun k hk => by show k ≠ w.heap.size + 1 + 1 + 1; omega) _)
        have BB := Aside0.mk (show Below w.heap.size w w5 by
          rw [hw5]
          exact (((BB.out.setCell (p := ⟨w.heap.size + 1 + 1, 0, none⟩) (show w.heap.size ≤ w.heap.size + 1 + 1 by omega) _).setCell (p := ⟨w.heap.size + 1 + 1, 1, none⟩) (show w.heap.size ≤ w.heap.size + 1 + 1 by omega) _).setCell (p := ⟨w.heap.size + 1 + 1 + 1, 0, none⟩) (show w.heap.size ≤ w.heap.size + 1 + 1 + 1 by omega) _).setCell (p := ⟨w.heap.size + 1 + 1 + 1, 1, none⟩) (show w.heap.size ≤ w.heap.size + 1 + 1 + 1 by omega) _)
        rw [← hw5]
        clear hw5 e0 e1 y3 y4 y5 y6 y7 y8 f3 f4 f5 f6 f7 f8 LT4
        have y3 : w5.cell? ⟨w.heap.size + 1, 0, none⟩ = some (.int .i64 s.a) := (blk_cell WX.out.2.1 0).trans rfl
        have y4 : w5.cell? ⟨w.heap.size + 1, 1, none⟩ = some (.int .i64 s.b) := (blk_cell WX.out.2.1 1).trans rfl
        have y5 : w5.cell? ⟨w.heap.size + 1 + 1, 0, none⟩ = some (.int .i64 tr) := (blk_cell WX.out.2.2.1 0).trans rfl
        have y6 : w5.cell? ⟨w.heap.size + 1 + 1, 1, none⟩ = some (.int .i64 tc) := (blk_cell WX.out.2.2.1 1).trans rfl
        have LEN := Aside0.mk (show ((L ++ [s]).length + 1) * 32 ≤ 140737488355328 by rw [List.length_append, List.length_singleton]; omega)
        have FR := Aside0.mk (fun (k : Nat) (hk : w5.heap.size ≤ k) => show w.heap.size + 3 < k from Nat.lt_of_lt_of_le WX.out.lt hk)
        go_wp2_with (at_builtin; go_loud (refine Kd.R_append kD (w0 := w) w.heap.size rfl (.tmp 37) (.tmp 41) 33 39 (.agg #[.int .i64 0, .int .i64 0, .int .i64 0, .int .i64 0]) 32 rfl Try.underlying33 infoD rfl (by decide) (by omega) u6 (L ++ [s]) (⟨s.a, s.b, tr, tc⟩ : StD) [.int .i64 s.a, .int .i64 s.b, .int .i64 tr, .int .i64 tc] (fun k => w.heap.size + 3 < k) (fun _ => False) rfl rfl ?aP2 (fun _ hk => hk.elim) ?aF2 ?aO2 ?aB2 ?aS2 ?aL2 ?_; (case aP2 => exact kD_mkM _ _ _ (⟨s.a, s.b, tr, tc⟩ : StD)); (case aB2 => exact BB.out); (case aF2 => exact FR.out); (case aO2 => exact RO.out); (case aS2 => exact BB.out.size); (case aL2 => exact LEN.out); intro v220 w11 ho hb hg hat; have HO := Aside0.mk ho; have HBB := Aside0.mk hb; have HGR := Aside0.mk hg; clear ho hb hg hat))
        have HK2 := Aside0.mk (fun (k : Nat) (hk : k < w.heap.size + 4) => HGR.out.block k (Nat.lt_of_lt_of_le hk WX.out.lt) (fun he => by have := RO.out.1 k he.symm; omega))
        go_roundg (K - (kk + 1))
        case measure => omega
        case rel => exact ⟨kk + 1, (⟨s.a, s.b, tr, tc⟩ : StD), s.x, s.y, L ++ [s], by omega, by omega, by rw [List.length_append, List.length_singleton, hL], ⟨ST.out, BF.out.2 (by first | rfl | trivial)⟩, HO, HBB, ⟨WX.out.keep HK2.out⟩⟩
    · have hk : kk = K := by omega
      subst hk
      have hs := SB.out.1
      rw [HK.out] at hs
      injection hs with hs
      subst hs
      rw [pick_none HN.out] at hn
      have hn0 : n = 0 := hn
      subst hn0
      have HL := Aside0.mk (show L.length < 2000000 by omega)
      clear hkk hg hL hn hcap PC hlt hKl HK HN HPL HG SB
      go_wp2
      go_ret
      exact ⟨_, L, rfl, Kd.R_mono RO.out (fun _ _ => trivial), HL.out, BB.out⟩
end Go.Proofs.Ytmfocekebenniaa.Given
