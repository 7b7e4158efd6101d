/- hexGame.wins and hexGame.move by hand (they call each other, over a map of known answers); for all slices that read as lists. -/
import Derived.Test.YtjajahofbhcioaaQx6
import Derived.Test.YtjajahofbhcioaaQx2
import Derived.Test.YtjajahofbhcioaaGp
import Derived.Lib.Walk
import Derived.Maps.OwnSet
import Derived.Maps.OwnOps
import Derived.Deep.RegionHeld3
import Derived.Deep.DeepCutAuto
import Derived.Outline
namespace Go.Proofs.Ytjajahofbhcioaa.Given
open Go.Proofs.Ytjajahofbhcioaa.Q Go.RowKit Go.Proofs.YtjajahofbhcioaaW.PrintWords Go.Proofs.YtjajahofbhcioaaW.PrintLast Go.Proofs.YtjajahofbhcioaaW.PrintMore
open Go.Maps (Keyed string_keyed)
open Go.MapKept
set_option linter.unusedVariables false
set_option linter.unusedSimpArgs false

/-- What is known at a key. -/
def getB (D : DataW Unit) (kl : Lit) : Bool := match D.atKey kl (.lit (.bool false)) with
  | .lit (.bool c) => c
  | _ => false
def keyS (s : ByteArray) : Lit := .string s.data.toList
def finB (D : DataW Unit) (kl : Lit) (b : Bool) : Option (Bool × DataW Unit) := if Maps.size D < 1000000000 then some (b, D.put kl (.lit (.bool b))) else none
mutual
def impl_wins.f : Nat → Int → Int → DataW Unit → List Int → Int → Option (Bool × DataW Unit)
  | 0, _, _, _, _, _ => none
  | k + 1, a, c, D, l, p => (impl_digitsText.f k l).bind fun t1 => (impl_digitsText.f k [p]).bind fun t2 => if t1.size + t2.size ≤ 1000 then (if Maps.has D (keyS (t1 ++ t2)) = true then some (getB D (keyS (t1 ++ t2)), D) else (impl_winner.f k a c l).bind fun o => if o = 0 then (impl_move.l0 k a c D l p 0).bind fun v => finB v.2 (keyS (t1 ++ t2)) (decide (v.1 ≥ 0)) else finB D (keyS (t1 ++ t2)) (o == p)) else none
def impl_move.l0 : Nat → Int → Int → DataW Unit → List Int → Int → Int → Option (Int × DataW Unit)
  | 0, _, _, _, _, _, _ => none
  | k + 1, a, c, D, l, p, i => if i < (l.length : Int) then (if 0 ≤ i ∧ l.length < 1000 then (if rd l i = 0 then (impl_wins.f k a c D (l.set i.toNat p) (wrap64 (3 - p))).bind fun t => (if t.1 = true then impl_move.l0 k a c t.2 l p (wrap64 (i + 1)) else some (i, t.2)) else impl_move.l0 k a c D l p (wrap64 (i + 1))) else none) else some (-1, D)
end
theorem impl_wins.mono_l : ∀ k, (∀ a c D l p, LeO (impl_wins.f k a c D l p) (impl_wins.f (k + 1) a c D l p)) ∧ (∀ a c D l p i, LeO (impl_move.l0 k a c D l p i) (impl_move.l0 (k + 1) a c D l p i))
  | 0 => ⟨fun _ _ _ _ _ r h => by simp [impl_wins.f] at h, fun _ _ _ _ _ _ r h => by simp [impl_move.l0] at h⟩
  | k + 1 => by
    obtain ⟨i0, i1⟩ := impl_wins.mono_l k
    refine ⟨fun a c D l p => ?_, fun a c D l p i => ?_⟩
    · rw [impl_wins.f, impl_wins.f]
      refine LeO.bind (impl_digitsText.mono _ k) (fun t1 => LeO.bind (impl_digitsText.mono _ k) (fun t2 => ?_))
      split
      · split
        · exact LeO.refl _
        · refine LeO.bind (impl_winner.mono _ _ _ k) (fun o => ?_)
          split
          · exact LeO.bind (i1 _ _ _ _ _ _) (fun _ => LeO.refl _)
          · exact LeO.refl _
      · exact LeO.refl _
    · rw [impl_move.l0, impl_move.l0]
      split
      · split
        · split
          · refine LeO.bind (i0 _ _ _ _ _) (fun t => ?_)
            split
            · exact i1 _ _ _ _ _ _
            · exact LeO.refl _
          · exact i1 _ _ _ _ _ _
        · exact LeO.refl _
      · exact LeO.refl _

/-- Block M is the map of what is known. -/
abbrev KM (w : World) (M : Nat) (D : DataW Unit) : Prop := World.ownsMap w Try.prog 9 (plainElem Try.prog 4) M (Maps.size D) D
theorem km_tight {w : World} {M n : Nat} {D : DataW Unit} (h : World.ownsMap w Try.prog 9 (plainElem Try.prog 4) M n D) : KM w M D := by
  obtain ⟨es, clock, hb, F, hs, rfl⟩ := h
  exact ⟨es, clock, hb, F, by simp [Maps.size, length_sorted], rfl⟩
theorem km_below {w w' : World} {M : Nat} {D : DataW Unit} (h : KM w M D) (hb : Below w.heap.size w w') : KM w' M D :=
  h.kept (row := none) ⟨hb.os, hb.tape, hb.output, hb.size, fun k hk _ => hb.block k hk⟩ (by simp)
theorem grown_below {w w1 w2 : World} {r : Option Nat} (h : w.grownBy w1 r) (hb : Below w1.heap.size w1 w2) : w.grownBy w2 r :=
  ⟨hb.os.trans h.os, hb.tape.trans h.tape, hb.output.trans h.output, Nat.le_trans h.size hb.size, fun k hk hn => (hb.block k (Nat.lt_of_lt_of_le hk h.size)).trans (h.block k hk hn)⟩
theorem grown_then {w w1 w2 : World} {r : Option Nat} (h : w.grownBy w1 r) (g : w1.grownBy w2 r) : w.grownBy w2 r :=
  ⟨g.os.trans h.os, g.tape.trans h.tape, g.output.trans h.output, Nat.le_trans h.size g.size, fun k hk hn => (g.block k (Nat.lt_of_lt_of_le hk h.size) hn).trans (h.block k hk hn)⟩
theorem grown_refl (w : World) (r : Option Nat) : w.grownBy w r := ⟨rfl, rfl, rfl, Nat.le_refl _, fun _ _ _ => rfl⟩
theorem grown_drewN {w w1 : World} {r : Option Nat} (h : w.grownBy w1 r) (n : Nat) : w.grownBy (w1.drewN n) r := grown_below h (pw_below_drewN (Below.refl _ _) n)
theorem km_drewN {w : World} {M : Nat} {D : DataW Unit} (h : KM w M D) (n : Nat) : KM (w.drewN n) M D := km_below h (pw_below_drewN (Below.refl _ _) n)
theorem grownOfBelow {w w' : World} {r : Option Nat} (h : Below w.heap.size w w') : w.grownBy w' r := grown_below (grown_refl w r) h
theorem C_map {w w' : World} {A : Option Addr} {l : List Int} {M : Nat} {D : DataW Unit} (h : Kd.C (Kd.int .i64) w A l.length l) (hm : KM w M D) (hg : w.grownBy w' (some M)) : Kd.C (Kd.int .i64) w' A l.length l := by
  refine Kd.C_keep 0 h (g := M) ⟨hg.size, fun i hi h1 _ => hg.block i hi (fun e => h1 (Option.some.inj e))⟩ (fun ad ha hl he => ?_)
  subst ha
  refine Kd.C_not_empty h hl (by decide) ?_
  obtain ⟨es, clock, hb, _⟩ := hm
  unfold World.cell?
  rw [he, hb]
theorem one_R {w : World} {B b : Nat} {ok : Nat → Prop} {x : Int} (hh : w.heap[b]? = some (.cells #[.int .i64 x] 3 (0, 0))) (hB : B ≤ b) (ho : ok b) : Kd.R (Kd.int .i64) 3 w B ok (.slice (some ⟨b, 0, none⟩) 1 1) [x] := by
  refine ⟨fun k hk => by simp [Value.ownBlock] at hk; subst hk; exact ho, [.int .i64 x], ⟨rfl, .inr ⟨b, 1, #[.int .i64 x], rfl, hB, hh, Nat.le_refl _, by decide, rfl, rfl⟩⟩, rfl, fun j p hj => ?_⟩
  match j, hj with
  | 0, hj => simp at hj; subst hj; rfl
  | j + 1, hj => simp at hj
theorem plainElem_bool_inv {P : Program} {e : TypeId} (he : P.underlying e = some .bool) {v : Value} {z : DataW Unit × List MemPlace} (h : plainElem P e v = some z) : ∃ x, v = .bool x ∧ z = (.lit (.bool x), []) := by
  unfold plainElem at h
  rw [he] at h
  cases v <;> simp at h
  exact ⟨_, rfl, h.symm⟩
theorem lookup_bool {P : Program} (w : World) {ops : Array Oper} {rest : List Oper} {o : Oper} {a : Act} {Q : Exit → Act → World → Prop} (hg : o.guard = none) (m x : Operand) (t : TypeId) (hop : o.op = Op.lookup t m x true)
    (k e : TypeId) (K : Keyed P k) (ht : P.underlying t = some (.map k e)) (he : P.underlying e = some .bool) (hz : (zeroValue e).run P w = .ok (.bool false) w) (b n : Nat) (D : DataW Unit)
    (hm : a.eval m = .map (some b)) (hown : w.ownsMap P k (plainElem P e) b n D) (key : Value) (kl : Lit) (hx : a.eval x = key) (hkey : keyOf P k key = some kl)
    (hK : wpList P ops Q rest (a.put o.dst (.tuple #[.bool (getB D kl), .bool (Maps.has D kl)])) w) : wpList P ops Q (o :: rest) a w :=
  wpList_lookup_own_ok w hg m x t hop k e K ht (plainElem P e) hz (.lit (.bool false)) [] (plainElem_bool he false) b n D hm hown key kl hx hkey (fun v ps hv => by
    obtain ⟨c, rfl, hc⟩ := plainElem_bool_inv he hv
    have h1 : D.atKey kl (.lit (.bool false)) = .lit (.bool c) := congrArg Prod.fst hc
    have h2 : getB D kl = c := by unfold getB; rw [h1]
    rw [h2] at hK
    exact hK)
theorem zeroB (w : World) : (zeroValue 4).run Try.prog w = .ok (.bool false) w := by kernel_rfl
theorem keyS_of {s : ByteArray} (h : s.size ≤ 1000) : keyOf Try.prog 9 (.string s) = some (keyS s) := Go.WideMaps.keyOf_string_mk Try.underlying9 (Nat.le_trans h (by decide))

abbrev IWins (k : Nat) : Prop := ∀ (a c : Int) (D : DataW Unit) (A : Option Addr) (c2 : Nat) (l : List Int) (p : Int) (r : Bool) (D' : DataW Unit) (M : Nat) (w : World), Kd.C (Kd.int .i64) w A l.length l → l.length ≤ c2 → KM w M D → impl_wins.f k a c D l p = some (r, D') →
  Calls Try.prog 38 #[.agg #[.int .i64 a, .int .i64 c, .map (some M)], .slice A l.length c2, .int .i64 p] w fun e w' => e = .returned (.bool r) ∧ KM w' M D' ∧ w.grownBy w' (some M)
abbrev IMove (k : Nat) : Prop := ∀ (a c : Int) (D : DataW Unit) (A : Option Addr) (c2 : Nat) (l : List Int) (p : Int) (r : Int) (D' : DataW Unit) (M : Nat) (w : World), Kd.C (Kd.int .i64) w A l.length l → l.length ≤ c2 → KM w M D → impl_move.l0 k a c D l p 0 = some (r, D') →
  Calls Try.prog 42 #[.agg #[.int .i64 a, .int .i64 c, .map (some M)], .slice A l.length c2, .int .i64 p] w fun e w' => e = .returned (.int .i64 r) ∧ KM w' M D' ∧ w.grownBy w' (some M)

set_option maxHeartbeats 4000000 in
set_option maxRecDepth 100000 in
theorem impl_wins_of (k : Nat) (ih : ∀ m, m < k → IMove m) : IWins k := by
  intro a c D A c2 l p r D' M w hr hc hm h
  cases k with
  | zero => simp [impl_wins.f] at h
  | succ k =>
    rw [impl_wins.f] at h
    obtain ⟨t1, ht1, h⟩ := Option.bind_eq_some_iff.mp h
    obtain ⟨t2, ht2, h⟩ := Option.bind_eq_some_iff.mp h
    by_cases hs : t1.size + t2.size ≤ 1000
    case neg => rw [if_neg hs] at h; cases h
    rw [if_pos hs] at h
    have hadd : ∀ W : World, (Op.stringOp .add t1 t2).run Try.prog W = .ok (.string (t1 ++ t2)) W := fun W => run_string_add_sum W t1 t2 (by omega)
    have hsz : (t1 ++ t2).size ≤ 1000 := by rw [ByteArray.size_append]; exact hs
    generalize t1 ++ t2 = s at h hadd hsz
    have HKEY := Aside0.mk (keyS_of hsz)
    have HR := Aside0.mk hr
    have HC := Aside0.mk hc
    have HM := Aside0.mk hm
    have HT1 := Aside0.mk ht1
    have HT2 := Aside0.mk ht2
    have HH := Aside0.mk h
    have hu := Try.underlying53
    clear hr hc hm ht1 ht2 h hs hsz
    obtain ⟨w1, hw1⟩ : ∃ w1, w1 = (w.alloc (.cells #[.int .i64 a, .int .i64 c, .map (some M)] 53)) := ⟨_, rfl⟩
    have B1 := Aside0.mk (show Below w.heap.size w w1 from hw1 ▸ below_alloc (Below.refl w.heap.size w) _)
    have hbk : w1.heap[w.heap.size]? = some (.cells #[.int .i64 a, .int .i64 c, .map (some M)] 53 (0, 0)) := by rw [hw1]; exact heap_alloc_new w _
    have HBK := Aside0.mk hbk
    have HW1 := Aside0.mk hw1
    clear hw1 hbk
    go_enter Try.func38, Try.ntmps38
    go_wp2_with fail
    rw [← HW1.out]
    refine (impl_digitsText.calls k _ _ l t1 _ (Kd.C_below HR.out B1.out) HC.out HT1.out).mono ?_
    rintro e w2 ⟨rfl, X⟩
    have X := Aside0.mk X
    go_wp2_with fail
    refine (impl_digitsText.calls k (some ⟨_, 0, none⟩) 1 [p] t2 _ (by repeat (first | exact (Kd.R_reads' (one_R (ok := fun _ => True) (heap_alloc_new _ _) (Nat.zero_le _) trivial)).2.2 | apply Kd.C_drewN)) (Nat.le_refl _) HT2.out).mono ?_
    rintro e w3 ⟨rfl, X3⟩
    have X := Aside0.mk (below_step (show Below w1.heap.size w1 _ by repeat (first | exact X.out | apply pw_below_drewN | apply below_alloc)) X3)
    clear X3 HT1 HT2
    have hx2 : w3.cell? ⟨w.heap.size, 2, none⟩ = some (.map (some M)) := by rw [blk_cell ((X.out.block _ (blk_lt HBK.out)).trans HBK.out)]; rfl
    have hx0 : w3.cell? ⟨w.heap.size, 0, none⟩ = some (.int .i64 a) := by rw [blk_cell ((X.out.block _ (blk_lt HBK.out)).trans HBK.out)]; rfl
    have hx1 : w3.cell? ⟨w.heap.size, 1, none⟩ = some (.int .i64 c) := by rw [blk_cell ((X.out.block _ (blk_lt HBK.out)).trans HBK.out)]; rfl
    have HM3 := Aside0.mk (km_below HM.out (below_step B1.out X.out))
    cases hhas : Maps.has D (keyS s) with
    | true =>
      have h := HH.out
      rw [hhas, if_pos rfl] at h
      injection h with h
      injection h with h1 h2
      subst h1 h2
      go_wp2_with (at_lookup; refine lookup_bool _ rfl _ _ 51 rfl 9 4 (string_keyed Try.underlying9) Try.underlying51 Try.underlying4 (zeroB _) M _ D rfl (by first | exact HM3.out | exact km_drewN HM3.out _) _ _ rfl HKEY.out ?_; rw [hhas])
      go_ret
      exact ⟨rfl, by first | exact HM3.out | exact km_drewN HM3.out _, grownOfBelow (by repeat (first | exact below_step B1.out X.out | apply pw_below_drewN))⟩
    | false =>
      have h := HH.out
      rw [hhas, if_neg (by decide)] at h
      obtain ⟨o, ho, h⟩ := Option.bind_eq_some_iff.mp h
      have HO := Aside0.mk ho
      have HH := Aside0.mk h
      clear ho h
      go_upto_region 6 with (at_lookup; refine lookup_bool _ rfl _ _ 51 rfl 9 4 (string_keyed Try.underlying9) Try.underlying51 Try.underlying4 (zeroB _) M _ D rfl (by first | exact HM3.out | exact km_drewN HM3.out _) _ _ rfl HKEY.out ?_; rw [hhas])
      go_wp2_with fail
      refine (impl_winner.calls k a c _ _ l o _ (by repeat (first | exact Kd.C_below HR.out (below_step B1.out X.out) | apply Kd.C_drewN)) HC.out HO.out).mono ?_
      rintro e w4 ⟨rfl, X4⟩
      have X := Aside0.mk (below_step (show Below w1.heap.size w1 _ by repeat (first | exact X.out | apply pw_below_drewN | apply below_alloc)) X4)
      clear X4 HO HM3 hx0 hx1 hx2
      have HM4 := Aside0.mk (km_below HM.out (below_step B1.out X.out))
      by_cases ho : o = 0
      · have h := HH.out
        rw [if_pos ho] at h
        subst ho
        obtain ⟨⟨v, Dv⟩, hv, h⟩ := Option.bind_eq_some_iff.mp h
        unfold finB at h
        by_cases hz : Maps.size Dv < 1000000000
        case neg => rw [if_neg hz] at h; cases h
        rw [if_pos hz] at h
        injection h with h
        injection h with h1 h2
        subst h1 h2
        have HZ := Aside0.mk (show Maps.size Dv < maxLen from Nat.lt_of_lt_of_le hz (by decide))
        have HV := Aside0.mk hv
        have hx0 : w4.cell? ⟨w.heap.size, 0, none⟩ = some (.int .i64 a) := by rw [blk_cell ((X.out.block _ (blk_lt HBK.out)).trans HBK.out)]; rfl
        have hx1 : w4.cell? ⟨w.heap.size, 1, none⟩ = some (.int .i64 c) := by rw [blk_cell ((X.out.block _ (blk_lt HBK.out)).trans HBK.out)]; rfl
        have hx2 : w4.cell? ⟨w.heap.size, 2, none⟩ = some (.map (some M)) := by rw [blk_cell ((X.out.block _ (blk_lt HBK.out)).trans HBK.out)]; rfl
        clear hz hv
        go_wp2_with fail
        refine ((ih k (Nat.lt_succ_self k)) a c D _ _ l p v Dv M _ (by repeat (first | exact Kd.C_below HR.out (below_step B1.out X.out) | apply Kd.C_drewN)) HC.out (by first | exact HM4.out | exact km_drewN HM4.out _) HV.out).mono ?_
        rintro e w5 ⟨rfl, HM5, X5⟩
        have X := Aside0.mk (grown_then (show World.grownBy w1 _ (some M) by first | exact grownOfBelow X.out | exact grown_drewN (grownOfBelow X.out) _) X5)
        have HM5 := Aside0.mk HM5
        have hne : w.heap.size ≠ M := fun e => by have := HM.out.lt; omega
        have HBK5 := Aside0.mk ((X.out.block _ (blk_lt HBK.out) (fun e => hne (Option.some.inj e))).trans HBK.out)
        have hx2 : w5.cell? ⟨w.heap.size, 2, none⟩ = some (.map (some M)) := by rw [blk_cell HBK5.out]; rfl
        clear X5 hx0 hx1 HM4 hne
        go_wp2_with (at_mapUpdate; refine wpList_mapUpdate_own (H := Unit) _ rfl _ _ _ 51 rfl 9 4 (string_keyed Try.underlying9) Try.underlying51 (plainElem Try.prog 4) M (Maps.size Dv) Dv rfl (by first | exact HM5.out | exact km_drewN HM5.out _) HZ.out _ _ (keyS s) rfl rfl HKEY.out _ [] (plainElem_bool Try.underlying4 _) ?_; intro w6 hown6 hg6; have HM6 := Aside0.mk (km_tight hown6); have X6 := Aside0.mk (grown_then (show World.grownBy w1 _ (some M) by first | exact X.out | exact grown_drewN X.out _) hg6); clear hown6 hg6)
        go_ret
        exact ⟨by first | rfl | simp, by first | exact HM6.out | exact km_drewN HM6.out _, by first | exact grown_then (grownOfBelow B1.out) X6.out | exact grown_drewN (grown_then (grownOfBelow B1.out) X6.out) _⟩
      · have h := HH.out
        rw [if_neg ho] at h
        have ho1 : (o == 0) = false := beq_eq_false_iff_ne.2 ho
        have ho2 : (o != 0) = true := bne_iff_ne.2 ho
        unfold finB at h
        by_cases hz : Maps.size D < 1000000000
        case neg => rw [if_neg hz] at h; cases h
        rw [if_pos hz] at h
        injection h with h
        injection h with h1 h2
        subst h1 h2
        have HZ := Aside0.mk (show Maps.size D < maxLen from Nat.lt_of_lt_of_le hz (by decide))
        have hx2 : w4.cell? ⟨w.heap.size, 2, none⟩ = some (.map (some M)) := by rw [blk_cell ((X.out.block _ (blk_lt HBK.out)).trans HBK.out)]; rfl
        clear hz
        go_wp2_with (at_mapUpdate; refine wpList_mapUpdate_own (H := Unit) _ rfl _ _ _ 51 rfl 9 4 (string_keyed Try.underlying9) Try.underlying51 (plainElem Try.prog 4) M (Maps.size D) D rfl (by first | exact HM4.out | exact km_drewN HM4.out _) HZ.out _ _ (keyS s) rfl rfl HKEY.out _ [] (plainElem_bool Try.underlying4 _) ?_; intro w6 hown6 hg6; have HM6 := Aside0.mk (km_tight hown6); have X6 := Aside0.mk (grown_then (show World.grownBy w1 _ (some M) by first | exact grownOfBelow X.out | exact grown_drewN (grownOfBelow X.out) _) hg6); clear hown6 hg6)
        go_ret
        exact ⟨by first | rfl | simp, by first | exact HM6.out | exact km_drewN HM6.out _, by first | exact grown_then (grownOfBelow B1.out) X6.out | exact grown_drewN (grown_then (grownOfBelow B1.out) X6.out) _⟩

set_option maxHeartbeats 4000000 in
set_option maxRecDepth 100000 in
theorem impl_move_of (k : Nat) (ih : ∀ m, m < k → IWins m) : IMove k := by
  intro a c D A c2 l p r D' M w hr hc hm h
  have HR := Aside0.mk hr
  have HC := Aside0.mk hc
  have HM := Aside0.mk hm
  have H' := Aside0.mk h
  have IH := Aside0.mk ih
  have hu := Try.underlying53
  obtain ⟨w1, hw1⟩ : ∃ w1, w1 = (w.alloc (.cells #[.int .i64 a, .int .i64 c, .map (some M)] 53)) := ⟨_, rfl⟩
  have B1 := Aside0.mk (show Below w.heap.size w w1 from hw1 ▸ below_alloc (Below.refl w.heap.size w) _)
  have hbk : w1.heap[w.heap.size]? = some (.cells #[.int .i64 a, .int .i64 c, .map (some M)] 53 (0, 0)) := by rw [hw1]; exact heap_alloc_new w _
  have HBK := Aside0.mk hbk
  have HW1 := Aside0.mk hw1
  have HNE := Aside0.mk (show w.heap.size ≠ M from fun e => by have := hm.lt; omega)
  clear hr hc hm h ih hw1 hbk
  go_enter Try.func42, Try.ntmps42
  go_wp2
  go_loopg [12] k (fun kq s12 wr => ∃ (i : Int) (Dr : DataW Unit), s12 = .int .i64 i ∧ Aside0 (impl_move.l0 kq a c Dr l p i = some (r, D')) ∧ Aside0 (kq ≤ k) ∧ Aside0 (World.grownBy w1 wr (some M)) ∧ Aside0 (KM wr M Dr))
  case atStart => exact ⟨0, D, rfl, H', ⟨Nat.le_refl _⟩, ⟨by rw [← HW1.out]; exact grown_refl _ _⟩, ⟨by rw [← HW1.out]; exact km_below HM.out B1.out⟩⟩
  case round =>
    clear H'
    obtain ⟨i, Dr, rfl, HA, HK, GW, MW⟩ := hrel
    have CW := Aside0.mk (C_map HR.out HM.out (grown_then (grownOfBelow B1.out) GW.out))
    cases gk with
    | zero => exact absurd HA.out (by simp [impl_move.l0])
    | succ k1 =>
      have H := HA.out
      clear HA
      rw [impl_move.l0] at H
      by_cases c1 : i < (l.length : Int)
      · rw [if_pos c1] at H
        by_cases c2' : 0 ≤ i ∧ l.length < 1000
        · rw [if_pos c2'] at H
          obtain ⟨c20, c21⟩ := c2'
          obtain ⟨ad, e1, hx⟩ := Kd.at_int CW.out i c20 c1
          cases e1
          have HL := Aside0.mk c21
          clear c21
          by_cases c3 : rd l i = 0
          · as_aux_lemma =>
            rw [if_pos c3] at H
            have c3b : (rd l i == 0) = true := beq_iff_eq.2 c3
            have c3c : (rd l i != 0) = false := by rw [bne, c3b]; rfl
            obtain ⟨⟨t, Dt⟩, ht, H⟩ := Option.bind_eq_some_iff.mp H
            have hsl : (l.set i.toNat p).length = l.length := List.length_set
            generalize hYY : l.set i.toNat p = Y at ht hsl
            have HY := Aside0.mk hYY
            have HT := Aside0.mk ht
            have H' := Aside0.mk H
            clear H ht hYY hsl c3
            go_wp2_with fail
            refine (slices_Clone_int_int.calls _ _ l l _ (by repeat (first | exact CW.out | apply Kd.C_drewN)) HC.out (by unfold slices_Clone_int_int.f; rw [if_pos (by have := HL.out; omega)])).mono ?_
            rintro e w2 ⟨v0, rfl, RO, B2⟩
            have GW2 := Aside0.mk (grown_below (show World.grownBy w1 _ (some M) by first | exact GW.out | exact grown_drewN GW.out _) B2)
            have MW2 := Aside0.mk (km_below (show KM _ M Dr by first | exact MW.out | exact km_drewN MW.out _) B2)
            have GE := Aside0.mk (show w1.heap.size ≤ wr.heap.size from GW.out.size)
            obtain ⟨gA, cA, eA, gbA, glA, clA, HGA⟩ := Kd.R_form RO (by omega)
            cases eA
            have GBA := Aside0.mk (show w1.heap.size ≤ gA from Nat.le_trans (Nat.le_trans GE.out (by simp)) gbA)
            obtain ⟨hx9, hf9⟩ := Kd.R_celln 0 RO i c20 c1
            have HP := Kd.R_putg RO i p
            have HML := Aside0.mk (show M < w1.heap.size from Nat.lt_of_lt_of_le HM.out.lt B1.out.size)
            clear B2 RO gbA glA clA HGA hx
            go_wp2_with ((with_reducible refine gate_store (t := 3) (p := 24) rfl ?_); refine store_event (t := 3) (p := 24) (v := ?vo_w12) (w1 := (w2.setCell ⟨gA, i.toNat, none⟩ (.int .i64 p))) ?hg ?ho ?hn ?hr ?_; (case ho => rfl); (case hg => rfl); (case hn => rfl); (case hr => first | (go_simp; done) | (go_simp; rfl)); intro w3 hw; have hg : w2.grownBy w3 (some gA) := (by rw [hw]; exact HP.2); have hp_ := (show Kd.R (Kd.int .i64) 3 w3 _ (fun _ => True) (.slice (some ⟨gA, 0, none⟩) l.length cA) Y from (by rw [hw, ← HY.out]; exact HP.1)); have GW3 := Aside0.mk (show World.grownBy w1 w3 (some M) from ⟨hg.os.trans GW2.out.os, hg.tape.trans GW2.out.tape, hg.output.trans GW2.out.output, Nat.le_trans GW2.out.size hg.size, fun k hk hn => (hg.block k (Nat.lt_of_lt_of_le hk GW2.out.size) (fun e => by have := GBA.out; injection e with e; omega)).trans (GW2.out.block k hk hn)⟩); have MW3 := Aside0.mk (MW2.out.kept hg (fun e => by have := GBA.out; have := HML.out; injection e with e; omega)); clear HP hw hg; generalize (Value.slice (some ⟨gA, 0, none⟩) l.length cA) = v2 at hp_ ⊢; obtain ⟨A2, cc2, rfl⟩ := Kd.R_slice hp_; have CY := Aside0.mk (Kd.R_reads' hp_); have HBK3 := Aside0.mk ((GW3.out.block _ (blk_lt HBK.out) (fun e => HNE.out (Option.some.inj e))).trans HBK.out); have hx0 : w3.cell? ⟨w.heap.size, 0, none⟩ = some (.int .i64 a) := (by rw [blk_cell HBK3.out]; rfl); have hx1 : w3.cell? ⟨w.heap.size, 1, none⟩ = some (.int .i64 c) := (by rw [blk_cell HBK3.out]; rfl); have hx2 : w3.cell? ⟨w.heap.size, 2, none⟩ = some (.map (some M)) := (by rw [blk_cell HBK3.out]; rfl); clear hp_ hx9 hf9)
            refine ((IH.out k1 (by have := HK.out; omega)) a c Dr _ _ Y _ t Dt M _ (by repeat (first | exact CY.out.2.2 | apply Kd.C_drewN)) CY.out.2.1 (by first | exact MW3.out | exact km_drewN MW3.out _) HT.out).mono ?_
            rintro e w4 ⟨rfl, MW4, GX⟩
            have GW4 := Aside0.mk (grown_then (show World.grownBy w1 _ (some M) by first | exact GW3.out | exact grown_drewN GW3.out _) GX)
            have MW4 := Aside0.mk MW4
            clear GX CY HT HY GW GW2 GW3 MW MW2 MW3 hx0 hx1 hx2
            cases t with
            | true =>
              have H' := Aside0.mk (show impl_move.l0 k1 a c Dt l p (wrap64 (i + 1)) = some (r, D') from H'.out)
              go_wp2
              go_roundg k1
              case measure => have := HK.out; omega
              case rel => exact ⟨wrap64 (i + 1), Dt, rfl, H', ⟨by have := HK.out; omega⟩, ⟨by first | exact GW4.out | exact grown_drewN GW4.out _⟩, ⟨by first | exact MW4.out | exact km_drewN MW4.out _⟩⟩
            | false =>
              have H2 : some (i, Dt) = some (r, D') := H'.out
              injection H2 with H2
              injection H2 with h1 h2
              subst h1 h2
              go_wp2
              go_ret
              exact ⟨rfl, by first | exact MW4.out | exact km_drewN MW4.out _, by first | exact grown_then (grownOfBelow B1.out) GW4.out | exact grown_drewN (grown_then (grownOfBelow B1.out) GW4.out) _⟩
          · as_aux_lemma =>
            rw [if_neg c3] at H
            have H' := Aside0.mk H
            have c3b : (rd l i == 0) = false := beq_eq_false_iff_ne.2 c3
            have c3c : (rd l i != 0) = true := bne_iff_ne.2 c3
            clear H
            go_wp2
            go_roundg k1
            case measure => have := HK.out; omega
            case rel => exact ⟨wrap64 (i + 1), Dr, rfl, H', ⟨by have := HK.out; omega⟩, ⟨by first | exact GW.out | exact grown_drewN GW.out _⟩, ⟨by first | exact MW.out | exact km_drewN MW.out _⟩⟩
        · rw [if_neg c2'] at H
          exact absurd H (by simp)
      · rw [if_neg c1] at H
        injection H with H
        injection H with h1 h2
        subst h1 h2
        go_wp2
        go_ret
        exact ⟨rfl, by first | exact MW.out | exact km_drewN MW.out _, by first | exact grown_then (grownOfBelow B1.out) GW.out | exact grown_drewN (grown_then (grownOfBelow B1.out) GW.out) _⟩

theorem impl_game (k : Nat) : IWins k ∧ IMove k := by
  induction k using Nat.strongRecOn with
  | _ k ih => exact ⟨impl_wins_of k (fun m hm => (ih m hm).2), impl_move_of k (fun m hm => (ih m hm).1)⟩
end Go.Proofs.Ytjajahofbhcioaa.Given
