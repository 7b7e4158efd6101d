/- The library's DeleteFunc over rows of numbers, where the predicate may allocate (its contract ends in Below) and is told at the rows that lie there. -/
import Derived.Test.YtcnplmajlanmdaaGz
import Derived.Lib.SlKept
import Derived.Lib.SliceRun
import Derived.Sort.WalkA
import Derived.Outline
namespace Go.Proofs.Ytcnplmajlanmdaa.Given
open Go.Proofs.Ytcnplmajlanmdaa.Q Go.RowKit Go.Proofs.YtcnplmajlanmdaaW.PrintWords Go.Proofs.YtcnplmajlanmdaaW.PrintLast Go.Proofs.YtcnplmajlanmdaaW.PrintMore Go.Lib Go.Sort
set_option linter.unusedVariables false
set_option linter.unusedSimpArgs false

theorem gb_store {a w : World} {g : Nat} (h : a.grownBy w (some g)) (i : Nat) (u : Value) : a.grownBy (w.setCell ⟨g, i, none⟩ u) (some g) :=
  ⟨h.os, h.tape, h.output, by simpa [World.setCell] using h.size, fun k hk hne => (Below.heap_setCell w ⟨g, i, none⟩ u k (fun e => hne (by rw [e]))).trans (h.block k hk hne)⟩
theorem gb_below {a w w1 : World} {row : Option Nat} (h : a.grownBy w row) (hb : Below w.heap.size w w1) : a.grownBy w1 row :=
  ⟨hb.os.trans h.os, hb.tape.trans h.tape, hb.output.trans h.output, Nat.le_trans h.size hb.size, fun k hk hne => (hb.block k (Nat.lt_of_lt_of_le hk h.size)).trans (h.block k hk hne)⟩
theorem gb_of_below {a w : World} (h : Below a.heap.size a w) (row : Option Nat) : a.grownBy w row := ⟨h.os, h.tape, h.output, h.size, fun k hk _ => h.block k hk⟩
theorem gb_setCells {a w : World} {g : Nat} (h : a.grownBy w (some g)) (i : Nat) (vs : List Value) : a.grownBy (w.setCells g i vs) (some g) := by
  obtain ⟨s1, s2, s3, s4⟩ := setCells_same g vs i w
  exact ⟨s1.trans h.os, s2.trans h.tape, s3.trans h.output, by rw [s4]; exact h.size, fun k hk hne => (setCells_far vs i k (fun e => hne (by rw [e]))).trans (h.block k hk hne)⟩
theorem gb_to_below {a w : World} {g B : Nat} (h : a.grownBy w (some g)) (hB : B ≤ g) (hs : B ≤ a.heap.size) : Below B a w :=
  ⟨h.os, h.tape, h.output, h.size, fun k hk => h.block k (by omega) (fun e => by have := Option.some.inj e; omega)⟩

/-- Block b holds these slices. -/
def RowAt (w : World) (b : Nat) (e : Nat) (sz : Nat) (dk : Array Sl) : Prop := ∃ ck : Array Value, w.heap[b]? = some (.cells ck e (0, 0)) ∧ ck.size = sz ∧ ∀ t, t < dk.size → ck[t]? = some (encS dk[t]!)
theorem RowAt.store {w : World} {b e sz : Nat} {dk : Array Sl} (h : RowAt w b e sz dk) (i : Nat) (hi : i < dk.size) (u : Sl) (hz : dk.size ≤ sz) : RowAt (w.setCell ⟨b, i, none⟩ (encS u)) b e sz (dk.setIfInBounds i u) := by
  obtain ⟨ck, h1, h2, h3⟩ := h
  refine ⟨ck.setIfInBounds i (encS u), blk_set h1 i (encS u), by simpa using h2, fun t ht => ?_⟩
  rw [Array.size_setIfInBounds] at ht
  by_cases e : t = i
  · subst e
    rw [Array.getElem?_setIfInBounds_self_of_lt (by omega), getElem!_set_same dk t u hi]
  · rw [Array.getElem?_setIfInBounds_ne (Ne.symm e), getElem!_set_other dk i t u e]
    exact h3 t ht
theorem RowAt.below {w w1 : World} {b e sz : Nat} {dk : Array Sl} (h : RowAt w b e sz dk) (hb : Below w.heap.size w w1) : RowAt w1 b e sz dk := by
  obtain ⟨ck, h1, h2, h3⟩ := h
  exact ⟨ck, (hb.block b (blk_lt h1)).trans h1, h2, h3⟩
theorem RowAt.cell {w : World} {b e sz : Nat} {dk : Array Sl} (h : RowAt w b e sz dk) {t : Nat} (ht : t < dk.size) : w.cell? ⟨b, t, none⟩ = some (encS dk[t]!) := by
  obtain ⟨ck, h1, h2, h3⟩ := h
  rw [blk_cell h1]
  exact h3 t ht
theorem RowAt.frozen {w : World} {b e sz : Nat} {dk : Array Sl} (h : RowAt w b e sz dk) (t : Nat) : w.frozen? ⟨b, t, none⟩ = false := by
  obtain ⟨ck, h1, h2, h3⟩ := h
  exact blk_frozen h1 t
theorem RowAt.lt {w : World} {b e sz : Nat} {dk : Array Sl} (h : RowAt w b e sz dk) : b < w.heap.size := by
  obtain ⟨ck, h1, h2, h3⟩ := h
  exact blk_lt h1

set_option maxHeartbeats 4000000 in
set_option maxRecDepth 1000000 in
theorem DeleteFunc_rowsB (kp : Nat → Bool) (g : Nat) (lb : Array Value) (eg : ∀ args w, (callFunc g args).run Try.prog w = .ok (.enter g args) w) (b cap sz et : Nat) (d : Array Sl) (w : World)
    (hH : RowAt w b et sz d) (hsz : d.size ≤ 9223372036854775807) (hds : d.size ≤ sz) (hcap : d.size ≤ cap)
    (hp : ∀ j, j < d.size → ∀ W, w.grownBy W (some b) → Calls Try.prog g (#[encS d[j]!] ++ lb) W fun e w' => e = .returned (.bool (!kp j)) ∧ Below W.heap.size W w') :
    Calls Try.prog 73 #[.slice (some ⟨b, 0, none⟩) d.size cap, .func (.func g) #[] lb] w fun e w' => e = .returned (.slice (some ⟨b, 0, none⟩) (keptUpTo kp d d.size).length cap) ∧ w.grownBy w' (some b) ∧ RowAt w' b et sz (keptUpTo kp d d.size).toArray := by
  have hIF := IndexFunc_rowsB kp g lb eg b cap d w (fun j hj => hH.cell hj) hH.lt hsz (fun j hj W hW => hp j hj W (gb_of_below hW _))
  have HH := Aside0.mk hH
  have HP := Aside0.mk hp
  have HI := Aside0.mk hIF
  clear hH hp hIF
  go_enter Try.func73, Try.ntmps73
  go_wp2_with fail
  refine HI.out.mono ?_
  rintro e w1 ⟨r, rfl, hb1, hr⟩
  have B1 := Aside0.mk hb1
  clear hb1
  rcases hr with ⟨rfl, hall⟩ | ⟨k0, hk0, rfl, hd0, hall⟩
  · have e3 : keptUpTo kp d d.size = d.toList := by
      rw [keptUpTo_all kp d _ hall]
      apply List.ext_getElem?
      intro i
      by_cases hi : i < d.size
      · simp [hi]
      · simp [hi]
    have E3 := Aside0.mk e3
    clear e3 hall
    go_wp2
    go_ret
    rw [E3.out]
    exact ⟨by simp, gb_of_below B1.out _, by simpa using HH.out.below B1.out⟩
  · have hne1 : ((k0 : Int) == -1) = false := beq_eq_false_iff_ne.2 (by omega)
    have HST := Aside0.mk (KeptInv.start hall hd0 (d := d))
    clear hall hd0
    go_wp2
    go_loopg [5, 6, 7] d.size (fun gg s5 s6 _ wr => ∃ (i j : Nat) (dk : Array Sl), s5 = .int .i64 i ∧ s6 = .int .i64 j ∧ j ≤ d.size ∧ d.size - j ≤ gg ∧ Aside0 (w.grownBy wr (some b)) ∧ Aside0 (RowAt wr b et sz dk) ∧ Aside0 (KeptInv kp d j i dk))
    case atStart => exact ⟨k0, k0 + 1, d, rfl, by go_num, by omega, by omega, ⟨gb_of_below B1.out _⟩, ⟨HH.out.below B1.out⟩, HST⟩
    case round =>
      obtain ⟨i, j, dk, rfl, rfl, hjd, hgg, GB, RA, I2⟩ := hrel
      have hij := I2.out.lt
      have DS := Aside0.mk I2.out.size
      by_cases hlt : j < d.size
      · have hltz : (j : Int) < (d.size : Int) := by omega
        have cj := RA.out.cell (t := j) (by rw [DS.out]; exact hlt)
        rw [I2.out.high j (by omega)] at cj
        have hcall := HP.out j hlt wr GB.out
        obtain ⟨u, hu⟩ : ∃ u, d[j]! = u := ⟨_, rfl⟩
        rw [hu] at cj hcall
        have HU := Aside0.mk hu
        clear hu
        obtain ⟨u1, u2, u3⟩ := u
        unfold encS at cj hcall
        simp only at cj hcall
        cases hq : kp j with
        | true =>
          rw [hq] at hcall
          simp only [Bool.not_true] at hcall
          have HQ := Aside0.mk hq
          clear hq
          have HNX := Aside0.mk (fun (w' : World) (B2 : Below wr.heap.size wr w') => by
            have r2 := RA.out.below B2
            exact And.intro (r2.cell (t := i) (by rw [DS.out]; omega)) (And.intro (r2.frozen i) (And.intro (gb_below GB.out B2) r2)))
          generalize dk[i]! = old at HNX
          obtain ⟨o1, o2, o3⟩ := old
          go_wp2_with (go_at_fn g; refine hcall.mono ?_; rintro e w' ⟨rfl, B2⟩; obtain ⟨ci, fi, g2, r2⟩ := HNX.out w' B2; unfold encS at ci; simp only at ci; have G2 := Aside0.mk g2; have R2 := Aside0.mk r2; clear B2 g2 r2)
          go_roundg (d.size - (j + 1))
          case measure => omega
          case rel =>
            refine ⟨i + 1, j + 1, dk.setIfInBounds i (u1, u2, u3), by go_num, by go_num, by omega, Nat.le_refl _, ⟨gb_store G2.out i _⟩, ⟨R2.out.store i (by rw [DS.out]; omega) (u1, u2, u3) (by rw [DS.out]; exact hds)⟩, ?_⟩
            have := I2.out.keep hlt HQ.out
            rw [HU.out] at this
            exact ⟨this⟩
        | false =>
          rw [hq] at hcall
          simp only [Bool.not_false] at hcall
          have HQ := Aside0.mk hq
          clear hq
          go_wp2_with (go_at_fn g; refine hcall.mono ?_; rintro e w' ⟨rfl, B2⟩; have G2 := Aside0.mk (gb_below GB.out B2); have R2 := Aside0.mk (RA.out.below B2); clear B2)
          go_roundg (d.size - (j + 1))
          case measure => omega
          case rel => exact ⟨i, j + 1, dk, rfl, by go_num, by omega, Nat.le_refl _, G2, R2, ⟨I2.out.skip HQ.out⟩⟩
      · have hj : j = d.size := by omega
        have HJ := Aside0.mk hj
        clear hj
        have hltz : ¬ (j : Int) < (d.size : Int) := by omega
        have hid : i < d.size := by omega
        have hv : ∀ w, (zeroValue 22).run Try.prog w = .ok (.slice none 0 0) w := fun w => by first | rfl | kernel_rfl | go_simp
        have hcl : ∀ ty, (Builtin.clear_ #[36] ty #[.slice (some ⟨b, i, none⟩) (d.size - i) (cap - i)]).run Try.prog wr = .ok (.tuple #[]) (wr.setCells b i (List.replicate (d.size - i) (.slice none 0 0))) := fun ty => by
          refine Lib.run_clear_slice wr _ _ ty _ Try.underlying36 hv rfl rfl b i _ _ (by omega) (fun t ht => ?_) (fun t ht => RA.out.frozen _)
          rw [RA.out.cell (t := i + t) (by rw [DS.out]; omega)]; rfl
        go_wp2
        go_ret
        have hj := HJ.out
        subst hj
        have hl := I2.out.len
        rw [hl]
        refine ⟨rfl, gb_setCells GB.out i _, ?_⟩
        obtain ⟨ck, h1, h2, h3⟩ := RA.out
        obtain ⟨cur', c1, c2, c3⟩ := setCells_row (List.replicate (d.size - i) (.slice none 0 0)) i wr ck h1 (by rw [h2, List.length_replicate]; omega)
        refine ⟨cur', c1, c2.trans h2, fun t ht => ?_⟩
        rw [List.size_toArray, hl] at ht
        have hlow := I2.out.low t ht
        have hts : t < ck.size := by omega
        have e1 : cur'[t]? = ck[t]? := by
          rw [← Array.getElem?_toList, c3, List.append_assoc, List.getElem?_append_left (by rw [← Array.length_toList] at hts; simp only [List.length_append, List.length_take]; omega), List.getElem?_take, if_pos ht, Array.getElem?_toList]
        rw [e1, h3 t (by rw [DS.out]; omega)]
        have e2 : (keptUpTo kp d d.size).toArray[t]! = dk[t]! := by
          rw [getElem!_pos (keptUpTo kp d d.size).toArray t (by rw [List.size_toArray, hl]; exact ht)]
          rw [List.getElem?_eq_getElem (by rw [hl]; exact ht)] at hlow
          simpa using Option.some.inj hlow
        rw [e2]

def decS : Value → Sl
  | .slice A n c => (A, n, c)
  | _ => (none, 0, 0)
theorem idxOf_at {l : List Nat} (hn : l.Nodup) : ∀ {j i : Nat}, l[j]? = some i → l.idxOf i = j := by
  induction l with
  | nil => intro j i h; simp at h
  | cons a t ih =>
    intro j i h
    cases j with
    | zero => have : a = i := by simpa using h
              subst this
              simp [List.idxOf_cons]
    | succ j =>
      have h' : t[j]? = some i := by simpa using h
      have hm := List.mem_of_getElem? h'
      have hne : a ≠ i := fun e => (List.nodup_cons.mp hn).1 (e ▸ hm)
      have hb : (a == i) = false := beq_eq_false_iff_ne.mpr hne
      rw [List.idxOf_cons, hb, ih (List.nodup_cons.mp hn).2 h']
      rfl

set_option maxHeartbeats 2000000 in
theorem DeleteFunc_SB (p : List Int → Bool) (g : Nat) (lb : Array Value) (eg : ∀ args w, (callFunc g args).run Try.prog w = .ok (.enter g args) w) {W : World} {B : Nat} {ok : Nat → Prop} {v : Value} {xs : List (List Int)} (hS : Kd.S (Kd.slice 3 (Kd.int .i64)) 22 W B ok v xs) (hx : 0 < xs.length)
    (hp : ∀ x ∈ xs, ∀ (A0 : Option Addr) (c0 : Nat) (W' : World), Below B W W' → Kd.C (Kd.int .i64) W' A0 x.length x → x.length ≤ c0 → Calls Try.prog g (#[.slice A0 x.length c0] ++ lb) W' fun e w' => e = .returned (.bool (p x)) ∧ Below W'.heap.size W' w') :
    Calls Try.prog 73 #[v, .func (.func g) #[] lb] W fun e w' => ∃ v' : Value, e = .returned v' ∧ Kd.S (Kd.slice 3 (Kd.int .i64)) 22 w' B ok v' (xs.filter fun x => !p x) ∧ Below B W w' := by
  obtain ⟨f, h0, inner, ⟨hil, ho⟩, hrl, hr⟩ := hS
  rcases ho with ⟨rfl, hz⟩ | ⟨b, cap, cur, rfl, hBb, hh, hncap, hcm, hcs, htk⟩
  · rw [List.length_zipIdx] at hz; omega
  rw [List.length_zipIdx] at hil hncap htk
  have s1 : (Kd.tag f (Kd.slice 3 (Kd.int .i64))).sz = 1 := rfl
  rw [s1, Nat.mul_one] at hil hcs htk
  have hel : ∀ j (hj : j < xs.length), ∃ (A : Option Addr) (c : Nat), inner[j]? = some (.slice A xs[j].length c) ∧ Kd.R (Kd.int .i64) 3 W B (fun k => (ok k ∧ some k ≠ some b) ∧ f k = j) (.slice A xs[j].length c) xs[j] := by
    intro j hj
    obtain ⟨vj, e, hR⟩ := hr j (xs[j], j) (by simp [hj])
    have e' : (inner.drop (j * 1)).take 1 = [vj] := e
    rw [Nat.mul_one] at e'
    have e2 := congrArg (fun l : List Value => l[0]?) e'
    have hR' : Kd.R (Kd.int .i64) 3 W B (fun k => (ok k ∧ some k ≠ some b) ∧ f k = j) vj xs[j] := hR
    obtain ⟨A, c, rfl⟩ := Kd.R_slice hR'
    exact ⟨A, c, by simpa [List.getElem?_take, List.getElem?_drop] using e2, hR'⟩
  obtain ⟨d, hd⟩ : ∃ d : Array Sl, d = (inner.map decS).toArray := ⟨_, rfl⟩
  have hds : d.size = xs.length := by rw [hd]; simp [hil]
  have hdj : ∀ j (hj : j < xs.length), ∃ (A : Option Addr) (c : Nat), d[j]! = (A, xs[j].length, c) ∧ inner[j]? = some (.slice A xs[j].length c) ∧ Kd.R (Kd.int .i64) 3 W B (fun k => (ok k ∧ some k ≠ some b) ∧ f k = j) (.slice A xs[j].length c) xs[j] := by
    intro j hj
    obtain ⟨A, c, e1, e2⟩ := hel j hj
    refine ⟨A, c, ?_, e1, e2⟩
    rw [hd, getElem!_pos _ j (by simp [hil]; exact hj)]
    have : (inner.map decS)[j]? = some (A, xs[j].length, c) := by rw [List.getElem?_map, e1]; rfl
    rw [List.getElem?_eq_getElem (by simp [hil]; exact hj)] at this
    simpa using Option.some.inj this
  have hcur : ∀ j, j < d.size → cur[j]? = some (encS d[j]!) := by
    intro j hj
    obtain ⟨A, c, e1, e2, _⟩ := hdj j (by omega)
    rw [e1]
    have : (cur.toList.take xs.length)[j]? = some (.slice A xs[j].length c) := by rw [htk]; exact e2
    rw [List.getElem?_take, if_pos (by omega)] at this
    have h3 : cur[j]? = some (.slice A xs[j].length c) := by simpa using this
    exact h3
  have hmx : xs.length ≤ 9223372036854775807 := by
    have : maxLen ≤ 9223372036854775807 := by decide
    omega
  have hRA : RowAt W b 22 cur.size d := ⟨cur, hh, rfl, hcur⟩
  have hBW : B ≤ W.heap.size := Nat.le_trans hBb (Nat.le_of_lt (blk_lt hh))
  have hcs1 : cur.size = cap := hcs
  have hcalls := DeleteFunc_rowsB (fun j => !p xs[j]!) g lb eg b cap cur.size 22 d W hRA (by omega) (by omega) (by omega) (fun j hj W' hW' => by
    have hj' : j < xs.length := by omega
    obtain ⟨A, c, e1, e2, e3⟩ := hdj j hj'
    have hR' := Kd.R_step e3 (w1 := W') (fun k hk hlt => hW'.block k hlt hk.1.2)
    obtain ⟨_, hlen, hC⟩ := Kd.R_reads' hR'
    have h5 := hp xs[j] (List.getElem_mem hj') A c _ (gb_to_below hW' hBb hBW) hC hlen
    have h6 : xs[j]! = xs[j] := getElem!_pos xs j hj'
    rw [e1, h6, Bool.not_not]
    exact h5)
  rw [List.length_zipIdx, ← hds]
  refine hcalls.mono ?_
  rintro e w' ⟨rfl, hgb, hra⟩
  refine ⟨_, rfl, ?_, gb_to_below hgb hBb hBW⟩
  clear hcalls hp
  obtain ⟨ki, hki⟩ : ∃ ki, ki = (List.range xs.length).filter fun j => !p xs[j]! := ⟨_, rfl⟩
  have hkept : keptUpTo (fun j => !p xs[j]!) d d.size = ki.map (d[·]!) := by unfold keptUpTo; rw [hki, hds]
  have hfil : (xs.filter fun x => !p x) = ki.map (xs[·]!) := by
    have := keptUpTo_filter (fun x => !p x) xs.toArray
    unfold keptUpTo at this
    simp only [List.size_toArray] at this
    rw [show xs = xs.toArray.toList from rfl, ← this, hki]
    simp
  have hlt : ∀ j ∈ ki, j < xs.length := fun j hj => by rw [hki] at hj; exact List.mem_range.mp (List.mem_filter.mp hj).1
  have hnd : ki.Nodup := by rw [hki]; exact List.Pairwise.filter _ List.nodup_range
  have hkl : ki.length ≤ xs.length := by rw [hki]; exact Nat.le_trans (List.length_filter_le _ _) (by simp)
  rw [hkept] at hra
  rw [hkept, hfil]
  obtain ⟨ck, c1, c2, c3⟩ := hra
  rw [List.size_toArray, List.length_map] at c3
  clear hfil hkept hki
  have hzl : (ki.map (xs[·]!)).zipIdx.length = ki.length := by rw [List.length_zipIdx, List.length_map]
  refine ⟨fun k => ki.idxOf (f k), fun k hk => h0 k (by rw [← hk]; rfl), (ki.map (d[·]!)).map encS, ⟨by rw [hzl]; simp [Kd.tag, Kd.slice], .inr ⟨b, cap, ck, by rw [hzl, List.length_map], hBb, c1, by rw [hzl]; omega, hcm, by rw [c2, hcs1]; exact (Nat.mul_one cap).symm, ?_⟩⟩, ?_, ?_⟩
  · rw [hzl]
    show List.take (ki.length * 1) _ = _
    rw [Nat.mul_one]
    apply List.ext_getElem?
    intro i
    rw [List.getElem?_take]
    by_cases hi : i < ki.length
    · rw [if_pos hi, Array.getElem?_toList, c3 i hi, getElem!_pos _ i (by simpa using hi)]
      simp [hi]
    · rw [if_neg hi]
      symm
      rw [List.getElem?_eq_none]
      simp; omega
  · rw [hzl]
    show _ = ki.length * 1
    simp
  · intro j z hj
    rw [List.getElem?_zipIdx, Nat.zero_add] at hj
    obtain ⟨x, hx1, rfl⟩ := Option.map_eq_some_iff.1 hj
    rw [List.getElem?_map] at hx1
    obtain ⟨i, hi, rfl⟩ := Option.map_eq_some_iff.1 hx1
    have hil := hlt i (List.mem_of_getElem? hi)
    obtain ⟨A, c, e1, e2, e3⟩ := hdj i hil
    have h6 : xs[i]! = xs[i] := getElem!_pos xs i hil
    refine ⟨.slice A xs[i].length c, ?_, ?_⟩
    · show ((((ki.map (d[·]!)).map encS).drop (j * 1)).take 1) = _
      have h7 : ((ki.map (d[·]!)).map encS)[j]? = some (.slice A xs[i].length c) := by simp [hi, e1, encS]
      rw [Nat.mul_one, List.take_one, List.head?_drop, h7]
      rfl
    · show Kd.R (Kd.int .i64) _ _ B _ _ xs[i]!
      rw [h6]
      refine Kd.R_mono (Kd.R_step e3 (fun k hk hlt => hgb.block k hlt hk.1.2)) (fun k hk => ⟨⟨hk.1.1, ?_⟩, ?_⟩)
      · exact fun he => hk.1.2 (he.trans rfl)
      · show ki.idxOf (f k) = j
        rw [hk.2]
        exact idxOf_at hnd hi
end Go.Proofs.Ytcnplmajlanmdaa.Given
