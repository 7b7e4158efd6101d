/- The library's DeleteFunc over rows of numbers, where the predicate is told at the rows that lie there and at no others. -/
import Derived.Test.YtmdhclpkbopmdaaQx0
import Derived.Lib.Walk
import Derived.Shelf.Abstract
import Derived.Lib.SlKept
import Derived.Lib.SliceRun
import Derived.Sort.WalkA
import Derived.Outline
namespace Go.Proofs.Ytmdhclpkbopmdaa.Given
open Go.Proofs.Ytmdhclpkbopmdaa.Q Go.RowKit Go.Proofs.YtmdhclpkbopmdaaW.PrintWords Go.Proofs.YtmdhclpkbopmdaaW.PrintLast Go.Proofs.YtmdhclpkbopmdaaW.PrintMore Go.Lib Go.Sort
set_option linter.unusedVariables false
set_option linter.unusedSimpArgs false

/-- A slice's three words. -/
abbrev Sl := Option Addr × Nat × Nat
def encS (x : Sl) : Value := .slice x.1 x.2.1 x.2.2
theorem encS_one (x : Sl) : (encS x).oneCell' = true := rfl

set_option maxHeartbeats 2000000 in
theorem IndexFunc_rows (kp : Nat → Bool) (g : Nat) (lb : Array Value) (eg : ∀ args w, (callFunc g args).run Try.prog w = .ok (.enter g args) w) (b cap : Nat) (d : Array Sl) (w : World)
    (hc : ∀ j, j < d.size → w.cell? ⟨b, j, none⟩ = some (encS d[j]!)) (hsz : d.size ≤ 9223372036854775807)
    (hp : ∀ j, j < d.size → ∀ q, Calls Try.prog g (#[encS d[j]!] ++ lb) (w.drewN q) fun e w' => e = .returned (.bool (!kp j)) ∧ Drawn0 (w.drewN q) w') :
    Calls Try.prog 118 #[.slice (some ⟨b, 0, none⟩) d.size cap, .func (.func g) #[] lb] w fun e w' => ∃ r : Int, e = .returned (.int .i64 r) ∧ Drawn0 w w' ∧ ((r = -1 ∧ ∀ j, j < d.size → kp j = true) ∨ ∃ k : Nat, k < d.size ∧ r = k ∧ kp k = false ∧ ∀ j, j < k → kp j = true) := by
  have HC := Aside0.mk hc
  have HP := Aside0.mk hp
  clear hc hp
  go_enter Try.func118, Try.ntmps118
  go_wp2
  go_loopg [5, 8] d.size (fun gg _ s8 wr => ∃ kk q : Nat, kk ≤ d.size ∧ d.size - kk ≤ gg ∧ s8 = .int .i64 kk ∧ wr = w.drewN q ∧ Aside0 (∀ j, j < kk → kp j = true))
  case atStart => exact ⟨0, 0, Nat.zero_le _, by omega, rfl, rfl, ⟨fun j hj => absurd hj (Nat.not_lt_zero _)⟩⟩
  case round =>
    obtain ⟨kk, q, hkk, hg, rfl, rfl, M⟩ := hrel
    by_cases hlt : kk < d.size
    · have hltz : (kk : Int) < (d.size : Int) := by omega
      have hx : (w.drewN q).cell? ⟨b, kk, none⟩ = some (encS d[kk]!) := HC.out kk hlt
      have hcall := HP.out kk hlt q
      unfold encS at hx hcall
      generalize d[kk]!.1 = y1 at hx hcall
      generalize d[kk]!.2.1 = y2 at hx hcall
      generalize d[kk]!.2.2 = y3 at hx hcall
      cases hq : kp kk with
      | false =>
        rw [hq] at hcall
        simp only [Bool.not_false] at hcall
        go_wp2_with (go_at_fn g; refine hcall.mono ?_; rintro e w' ⟨rfl, ⟨q', rfl⟩⟩)
        go_ret
        exact ⟨_, rfl, ⟨⟨_, rfl⟩⟩, .inr ⟨kk, hlt, rfl, hq, M.out⟩⟩
      | true =>
        rw [hq] at hcall
        simp only [Bool.not_true] at hcall
        go_wp2_with (go_at_fn g; refine hcall.mono ?_; rintro e w' ⟨rfl, ⟨q', rfl⟩⟩)
        go_roundg (d.size - (kk + 1))
        case measure => omega
        case rel =>
          refine ⟨kk + 1, _, by omega, by omega, by go_num, rfl, ⟨fun j hj => ?_⟩⟩
          by_cases e : j = kk
          · subst e
            exact hq
          · exact M.out j (by omega)
    · have hltz : ¬ (kk : Int) < (d.size : Int) := by omega
      have hk : kk = d.size := by omega
      have HK := Aside0.mk hk
      clear hk
      go_wp2
      go_ret
      exact ⟨_, rfl, ⟨⟨q, rfl⟩⟩, .inl ⟨rfl, by rw [← HK.out]; exact M.out⟩⟩

set_option maxHeartbeats 4000000 in
set_option maxRecDepth 1000000 in
theorem DeleteFunc_rows (kp : Nat → Bool) (g : Nat) (lb : Array Value) (eg : ∀ args w, (callFunc g args).run Try.prog w = .ok (.enter g args) w) (b cap : Nat) (d : Array Sl) (w : World)
    (hH : Holds encS w b 0 d) (hsz : d.size ≤ 9223372036854775807) (hcap : d.size ≤ cap)
    (hp : ∀ j, j < d.size → ∀ (q : Nat) (dk : Array Sl), dk.size = d.size → Calls Try.prog g (#[encS d[j]!] ++ lb) (putRow encS (Sort.ahead w q) b 0 dk) fun e w' => e = .returned (.bool (!kp j)) ∧ Drawn0 (putRow encS (Sort.ahead w q) b 0 dk) w') :
    Calls Try.prog 109 #[.slice (some ⟨b, 0, none⟩) d.size cap, .func (.func g) #[] lb] w fun e w' => e = .returned (.slice (some ⟨b, 0, none⟩) (keptUpTo kp d d.size).length cap) ∧ ∃ q, w' = putRow encS (Sort.ahead w q) b 0 ((keptUpTo kp d d.size) ++ List.replicate (d.size - (keptUpTo kp d d.size).length) ((none, 0, 0) : Sl)).toArray := by
  have hself : ∀ q, putRow encS (Sort.ahead w q) b 0 d = Sort.ahead w q := fun q => putRow_self encS (Sort.ahead w q) b 0 d (holds_ahead encS w q b 0 d hH)
  have hIF := IndexFunc_rows kp g lb eg b cap d w (fun j hj => by have := (hH j hj).1; rwa [Nat.zero_add] at this) hsz (fun j hj q => by have := hp j hj q d rfl; rw [hself q] at this; exact this)
  have HH := Aside0.mk hH
  have HP := Aside0.mk hp
  have HI := Aside0.mk hIF
  have HS := Aside0.mk hself
  clear hH hp hIF hself
  go_enter Try.func109, Try.ntmps109
  go_wp2_with fail
  refine HI.out.mono ?_
  rintro e w1 ⟨r, rfl, ⟨⟨q0, rfl⟩⟩, hr⟩
  rcases hr with ⟨rfl, hall⟩ | ⟨k0, hk0, rfl, hd0, hall⟩
  · have e3 : keptUpTo kp d d.size = d.toList := by
      rw [keptUpTo_all kp d _ hall]
      apply List.ext_getElem?
      intro i
      by_cases hi : i < d.size
      · simp [hi]
      · simp [hi]
    have E3 := Aside0.mk e3
    clear e3 hall
    go_wp2
    go_ret
    rw [E3.out]
    refine ⟨by simp, q0, ?_⟩
    simp only [Array.length_toList, Nat.sub_self, List.replicate_zero, List.append_nil, Array.toArray_toList]
    exact (HS.out q0).symm
  · have hne1 : ((k0 : Int) == -1) = false := beq_eq_false_iff_ne.2 (by omega)
    have HST := Aside0.mk (KeptInv.start hall hd0 (d := d))
    clear hall hd0
    go_wp2
    go_loopg [5, 6, 7] d.size (fun gg s5 s6 _ wr => ∃ (i j q : Nat) (dk : Array Sl), s5 = .int .i64 i ∧ s6 = .int .i64 j ∧ j ≤ d.size ∧ d.size - j ≤ gg ∧ wr = putRow encS (Sort.ahead w q) b 0 dk ∧ Aside0 (KeptInv kp d j i dk))
    case atStart => exact ⟨k0, k0 + 1, q0, d, rfl, by go_num, by omega, by omega, (HS.out q0).symm, HST⟩
    case round =>
      obtain ⟨i, j, q, dk, rfl, rfl, hjd, hgg, hwr, I2⟩ := hrel
      have hij := I2.out.lt
      have hds := I2.out.size
      have HHK := Aside0.mk (show Holds encS wr b 0 dk by rw [hwr]; exact holds_putRow encS _ b 0 d dk (holds_ahead encS w q b 0 d HH.out) hds)
      have W2 := Aside0.mk hwr
      by_cases hlt : j < d.size
      · have hltz : (j : Int) < (d.size : Int) := by omega
        have cj := (HHK.out j (by omega)).1
        obtain ⟨ci, fi⟩ := HHK.out i (by omega)
        rw [Nat.zero_add] at cj ci fi
        rw [I2.out.high j (by omega)] at cj
        have hcall := HP.out j hlt q dk hds
        rw [← hwr] at hcall
        clear hwr
        obtain ⟨u, hu⟩ : ∃ u, d[j]! = u := ⟨_, rfl⟩
        rw [hu] at cj hcall
        have HU := Aside0.mk hu
        clear hu
        generalize dk[i]! = old at ci
        obtain ⟨u1, u2, u3⟩ := u
        obtain ⟨o1, o2, o3⟩ := old
        unfold encS at cj ci hcall
        simp only at cj ci hcall
        cases hq : kp j with
        | true =>
          rw [hq] at hcall
          simp only [Bool.not_true] at hcall
          have HQ := Aside0.mk hq
          clear hq
          go_wp2_with (go_at_fn g; refine hcall.mono ?_; rintro e w' ⟨rfl, ⟨qq, rfl⟩⟩)
          go_roundg (d.size - (j + 1))
          case measure => omega
          case rel =>
            refine ⟨i + 1, j + 1, q + qq, dk.setIfInBounds i (u1, u2, u3), by go_num, by go_num, by omega, Nat.le_refl _, ?_, ?_⟩
            · rw [W2.out, show (putRow encS (Sort.ahead w q) b 0 dk).drewN qq = putRow encS (Sort.ahead w (q + qq)) b 0 dk from putRow_drewN _ _ _ _ _ _ _]
              have h9 := putRow_set encS (Sort.ahead w (q + qq)) b 0 dk i (u1, u2, u3) (by omega)
              rw [Nat.zero_add] at h9
              exact h9
            · have := I2.out.keep hlt HQ.out
              rw [HU.out] at this
              exact ⟨this⟩
        | false =>
          rw [hq] at hcall
          simp only [Bool.not_false] at hcall
          have HQ := Aside0.mk hq
          clear hq
          go_wp2_with (go_at_fn g; refine hcall.mono ?_; rintro e w' ⟨rfl, ⟨qq, rfl⟩⟩)
          go_roundg (d.size - (j + 1))
          case measure => omega
          case rel => exact ⟨i, j + 1, q + qq, dk, rfl, by go_num, by omega, Nat.le_refl _, by rw [W2.out]; exact putRow_drewN _ _ _ _ _ _ _, ⟨I2.out.skip HQ.out⟩⟩
      · have hj : j = d.size := by omega
        have HJ := Aside0.mk hj
        have hltz : ¬ (j : Int) < (d.size : Int) := by omega
        have hid : i < d.size := by omega
        have hv : ∀ w, (zeroValue 32).run Try.prog w = .ok (.slice none 0 0) w := fun w => by first | rfl | kernel_rfl | go_simp
        have hcl : ∀ ty, (Builtin.clear_ #[25] ty #[.slice (some ⟨b, i, none⟩) (d.size - i) (cap - i)]).run Try.prog wr = .ok (.tuple #[]) (wr.setCells b i (List.replicate (d.size - i) (.slice none 0 0))) := fun ty => by
          refine Lib.run_clear_slice wr _ _ ty _ Try.underlying25 hv rfl rfl b i _ _ (by omega) (fun t ht => ?_) (fun t ht => ?_)
          · have h9 := (HHK.out (i + t) (by omega)).1
            rw [Nat.zero_add] at h9
            rw [h9]; rfl
          · have h9 := (HHK.out (i + t) (by omega)).2
            rw [Nat.zero_add] at h9
            exact h9
        clear hwr
        go_wp2
        go_ret
        subst hj
        have hl := I2.out.len
        rw [hl]
        refine ⟨rfl, q, ?_⟩
        have h9 := putRow_setCells encS (Sort.ahead w q) b 0 (List.replicate (d.size - i) ((none, 0, 0) : Sl)) dk i (by simp; omega)
        rw [Nat.zero_add, List.map_replicate, I2.out.done] at h9
        rw [W2.out]
        exact h9

theorem heap_putRow_other (w : World) (b : Nat) (d : Array Sl) {k : Nat} (h : k ≠ b) : (putRow encS w b 0 d).heap[k]? = w.heap[k]? := by
  simp [putRow, mapBlock, Array.getElem?_modify, Ne.symm h]
theorem heap_putRow_same (w : World) (b : Nat) (d : Array Sl) {c : Array Value} {e : TypeId} {fr : Nat × Nat} (hb : w.heap[b]? = some (.cells c e fr)) : (putRow encS w b 0 d).heap[b]? = some (.cells (putCells encS 0 d c) e fr) := by
  simp [putRow, mapBlock, Array.getElem?_modify, hb, onCells]
theorem below_putRow (w : World) (q b : Nat) (d : Array Sl) {B : Nat} (h : B ≤ b) : Below B w (putRow encS (Sort.ahead w q) b 0 d) :=
  ⟨rfl, rfl, rfl, by rw [size_putRow]; exact Nat.le_refl _, fun k hk => heap_putRow_other (Sort.ahead w q) b d (by omega)⟩
def decS : Value → Sl
  | .slice A n c => (A, n, c)
  | _ => (none, 0, 0)
theorem holds_cells (w : World) (b : Nat) (d : Array Sl) {cur : Array Value} {e : TypeId} (hh : w.heap[b]? = some (.cells cur e (0, 0))) (hc : ∀ j, j < d.size → cur[j]? = some (encS d[j]!)) : Holds encS w b 0 d := by
  intro j hj
  rw [Nat.zero_add]
  refine ⟨?_, ?_⟩
  · simp [World.cell?, hh, hc j hj]
  · simp [World.frozen?, hh]

theorem idxOf_at {l : List Nat} (hn : l.Nodup) : ∀ {j i : Nat}, l[j]? = some i → l.idxOf i = j := by
  induction l with
  | nil => intro j i h; simp at h
  | cons a t ih =>
    intro j i h
    cases j with
    | zero => have : a = i := by simpa using h
              subst this
              simp [List.idxOf_cons]
    | succ j =>
      have h' : t[j]? = some i := by simpa using h
      have hm := List.mem_of_getElem? h'
      have hne : a ≠ i := fun e => (List.nodup_cons.mp hn).1 (e ▸ hm)
      have hb : (a == i) = false := beq_eq_false_iff_ne.mpr hne
      rw [List.idxOf_cons, hb, ih (List.nodup_cons.mp hn).2 h']
      rfl

set_option maxHeartbeats 2000000 in
theorem DeleteFunc_S (p : List Int → Bool) (g : Nat) (lb : Array Value) (eg : ∀ args w, (callFunc g args).run Try.prog w = .ok (.enter g args) w) {W : World} {B : Nat} {ok : Nat → Prop} {v : Value} {xs : List (List Int)} (hS : Kd.S (Kd.slice 3 (Kd.int .i64)) 32 W B ok v xs) (hx : 0 < xs.length)
    (hp : ∀ x ∈ xs, ∀ (A0 : Option Addr) (c0 : Nat) (W' : World), Below B W W' → Kd.C (Kd.int .i64) W' A0 x.length x → x.length ≤ c0 → Calls Try.prog g (#[.slice A0 x.length c0] ++ lb) W' fun e w' => e = .returned (.bool (p x)) ∧ Drawn0 W' w') :
    Calls Try.prog 109 #[v, .func (.func g) #[] lb] W fun e w' => ∃ v' : Value, e = .returned v' ∧ Kd.S (Kd.slice 3 (Kd.int .i64)) 32 w' B ok v' (xs.filter fun x => !p x) ∧ Below B W w' := by
  obtain ⟨f, h0, inner, ⟨hil, ho⟩, hrl, hr⟩ := hS
  rcases ho with ⟨rfl, hz⟩ | ⟨b, cap, cur, rfl, hBb, hh, hncap, hcm, hcs, htk⟩
  · rw [List.length_zipIdx] at hz; omega
  rw [List.length_zipIdx] at hil hncap htk
  have s1 : (Kd.tag f (Kd.slice 3 (Kd.int .i64))).sz = 1 := rfl
  rw [s1, Nat.mul_one] at hil hcs htk
  have hel : ∀ j (hj : j < xs.length), ∃ (A : Option Addr) (c : Nat), inner[j]? = some (.slice A xs[j].length c) ∧ Kd.R (Kd.int .i64) 3 W B (fun k => (ok k ∧ some k ≠ some b) ∧ f k = j) (.slice A xs[j].length c) xs[j] := by
    intro j hj
    obtain ⟨vj, e, hR⟩ := hr j (xs[j], j) (by simp [hj])
    have e' : (inner.drop (j * 1)).take 1 = [vj] := e
    rw [Nat.mul_one] at e'
    have e2 := congrArg (fun l : List Value => l[0]?) e'
    have hR' : Kd.R (Kd.int .i64) 3 W B (fun k => (ok k ∧ some k ≠ some b) ∧ f k = j) vj xs[j] := hR
    obtain ⟨A, c, rfl⟩ := Kd.R_slice hR'
    exact ⟨A, c, by simpa [List.getElem?_take, List.getElem?_drop] using e2, hR'⟩
  obtain ⟨d, hd⟩ : ∃ d : Array Sl, d = (inner.map decS).toArray := ⟨_, rfl⟩
  have hds : d.size = xs.length := by rw [hd]; simp [hil]
  have hdj : ∀ j (hj : j < xs.length), ∃ (A : Option Addr) (c : Nat), d[j]! = (A, xs[j].length, c) ∧ inner[j]? = some (.slice A xs[j].length c) ∧ Kd.R (Kd.int .i64) 3 W B (fun k => (ok k ∧ some k ≠ some b) ∧ f k = j) (.slice A xs[j].length c) xs[j] := by
    intro j hj
    obtain ⟨A, c, e1, e2⟩ := hel j hj
    refine ⟨A, c, ?_, e1, e2⟩
    rw [hd, getElem!_pos _ j (by simp [hil]; exact hj)]
    have : (inner.map decS)[j]? = some (A, xs[j].length, c) := by rw [List.getElem?_map, e1]; rfl
    rw [List.getElem?_eq_getElem (by simp [hil]; exact hj)] at this
    simpa using Option.some.inj this
  have hcur : ∀ j, j < d.size → cur[j]? = some (encS d[j]!) := by
    intro j hj
    obtain ⟨A, c, e1, e2, _⟩ := hdj j (by omega)
    rw [e1]
    have : (cur.toList.take xs.length)[j]? = some (.slice A xs[j].length c) := by rw [htk]; exact e2
    rw [List.getElem?_take, if_pos (by omega)] at this
    have h3 : cur[j]? = some (.slice A xs[j].length c) := by simpa using this
    exact h3
  have hmx : xs.length ≤ 9223372036854775807 := by
    have : maxLen ≤ 9223372036854775807 := by decide
    omega
  have hcalls := DeleteFunc_rows (fun j => !p xs[j]!) g lb eg b cap d W (holds_cells W b d hh hcur) (by omega) (by omega) (fun j hj q dk hdk => by
    have hj' : j < xs.length := by omega
    obtain ⟨A, c, e1, e2, e3⟩ := hdj j hj'
    have hR' := Kd.R_move e3 (w1 := putRow encS (Sort.ahead W q) b 0 dk) (fun k hk => heap_putRow_other (Sort.ahead W q) b dk (fun he => hk.1.2 (by rw [he])))
    obtain ⟨_, hlen, hC⟩ := Kd.R_reads' hR'
    have h5 := hp xs[j] (List.getElem_mem hj') A c _ (below_putRow W q b dk hBb) hC hlen
    have h6 : xs[j]! = xs[j] := getElem!_pos xs j hj'
    rw [e1, h6, Bool.not_not]
    exact h5)
  rw [List.length_zipIdx, ← hds]
  refine hcalls.mono ?_
  rintro e w' ⟨rfl, q, rfl⟩
  refine ⟨_, rfl, ?_, below_putRow W q b _ hBb⟩
  clear hcalls hp
  obtain ⟨ki, hki⟩ : ∃ ki, ki = (List.range xs.length).filter fun j => !p xs[j]! := ⟨_, rfl⟩
  have hkept : keptUpTo (fun j => !p xs[j]!) d d.size = ki.map (d[·]!) := by unfold keptUpTo; rw [hki, hds]
  have hfil : (xs.filter fun x => !p x) = ki.map (xs[·]!) := by
    have := keptUpTo_filter (fun x => !p x) xs.toArray
    unfold keptUpTo at this
    simp only [List.size_toArray] at this
    rw [show xs = xs.toArray.toList from rfl, ← this, hki]
    simp
  have hlt : ∀ j ∈ ki, j < xs.length := fun j hj => by rw [hki] at hj; exact List.mem_range.mp (List.mem_filter.mp hj).1
  have hnd : ki.Nodup := by rw [hki]; exact List.Pairwise.filter _ List.nodup_range
  have hkl : ki.length ≤ xs.length := by rw [hki]; exact Nat.le_trans (List.length_filter_le _ _) (by simp)
  rw [hkept, hfil]
  clear hfil hkept hki
  have hzl : (ki.map (xs[·]!)).zipIdx.length = ki.length := by rw [List.length_zipIdx, List.length_map]
  refine ⟨fun k => ki.idxOf (f k), fun k hk => h0 k (by rw [← hk]; rfl), (ki.map (d[·]!)).map encS, ⟨by rw [hzl]; simp [Kd.tag, Kd.slice], .inr ⟨b, cap, putCells encS 0 ((ki.map (d[·]!)) ++ List.replicate (d.size - (ki.map (d[·]!)).length) ((none, 0, 0) : Sl)).toArray cur, by rw [hzl, List.length_map], hBb, heap_putRow_same (Sort.ahead W q) b _ hh, by rw [hzl]; omega, hcm, ?_, ?_⟩⟩, ?_, ?_⟩
  · show (putCells encS 0 _ cur).size = cap * 1
    simp [putCells, hcs]
  · rw [hzl]
    show List.take (ki.length * 1) _ = _
    rw [Nat.mul_one]
    apply List.ext_getElem?
    intro i
    rw [List.getElem?_take]
    by_cases hi : i < ki.length
    · rw [if_pos hi]
      have hic : i < cur.size := by omega
      have hDs : i < ((ki.map (d[·]!)) ++ List.replicate (d.size - (ki.map (d[·]!)).length) ((none, 0, 0) : Sl)).toArray.size := by simp; omega
      have hDi : ((ki.map (d[·]!)) ++ List.replicate (d.size - (ki.map (d[·]!)).length) ((none, 0, 0) : Sl)).toArray[i]! = d[ki[i]]! := by
        rw [getElem!_pos _ i hDs]
        simp [List.getElem_append_left, hi]
      simp only [putCells, Array.getElem?_toList, Array.getElem?_mapIdx, Nat.sub_zero, Nat.zero_add, Nat.zero_le, true_and]
      rw [Array.getElem?_eq_getElem hic, Option.map_some, if_pos hDs, hDi]
      simp [hi]
    · rw [if_neg hi]
      symm
      rw [List.getElem?_eq_none]
      simp; omega
  · rw [hzl]
    show _ = ki.length * 1
    simp
  · intro j z hj
    rw [List.getElem?_zipIdx, Nat.zero_add] at hj
    obtain ⟨x, hx1, rfl⟩ := Option.map_eq_some_iff.1 hj
    rw [List.getElem?_map] at hx1
    obtain ⟨i, hi, rfl⟩ := Option.map_eq_some_iff.1 hx1
    have hil := hlt i (List.mem_of_getElem? hi)
    obtain ⟨A, c, e1, e2, e3⟩ := hdj i hil
    have h6 : xs[i]! = xs[i] := getElem!_pos xs i hil
    refine ⟨.slice A xs[i].length c, ?_, ?_⟩
    · show ((((ki.map (d[·]!)).map encS).drop (j * 1)).take 1) = _
      have h7 : ((ki.map (d[·]!)).map encS)[j]? = some (.slice A xs[i].length c) := by simp [hi, e1, encS]
      rw [Nat.mul_one, List.take_one, List.head?_drop, h7]
      rfl
    · show Kd.R (Kd.int .i64) _ _ B _ _ xs[i]!
      rw [h6]
      refine Kd.R_mono (Kd.R_move e3 (fun k hk => heap_putRow_other (Sort.ahead W q) b _ (fun he => hk.1.2 (by rw [he])))) (fun k hk => ⟨⟨hk.1.1, ?_⟩, ?_⟩)
      · exact fun he => hk.1.2 (he.trans rfl)
      · show ki.idxOf (f k) = j
        rw [hk.2]
        exact idxOf_at hnd hi
end Go.Proofs.Ytmdhclpkbopmdaa.Given
