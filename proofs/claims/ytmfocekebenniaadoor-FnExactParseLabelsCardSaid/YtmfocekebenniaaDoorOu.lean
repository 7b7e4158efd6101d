/- strings.Cut at a colon, strconv.Atoi and impl.ParseLabels by hand; for all texts of at most 2^21 bytes, in worlds where the two variables of strconv hold some error. -/
import Derived.Test.YtmfocekebenniaaDoorOe
import Derived.Test.YtmfocekebenniaaDoorOw
import Derived.Test.YtmfocekebenniaaDoorQx4
import Derived.Test.YtmfocekebenniaaDoorGa
import Derived.Lib.AtoiErrMem
import Derived.Lib.IndexLaws
namespace Go.Proofs.YtmfocekebenniaaDoor.Given
open Go.Proofs.YtmfocekebenniaaDoor.Q Go.RowKit Go.Shelf Go.Proofs.YtmfocekebenniaaDoorW.PrintWords Go.Proofs.YtmfocekebenniaaDoorW.PrintLast Go.Proofs.YtmfocekebenniaaDoorW.PrintMore
set_option linter.unusedVariables false
set_option linter.unusedSimpArgs false
/-- The two variables hold some interface value each. -/
def VarsOk (w : World) : Prop := (∃ ev, w.cell? ⟨1, 0, none⟩ = some ev ∧ (ev = .nilIface ∨ ∃ te pe, ev = .iface te pe)) ∧ ∃ ev, w.cell? ⟨2, 0, none⟩ = some ev ∧ (ev = .nilIface ∨ ∃ te pe, ev = .iface te pe)
theorem VarsOk.below {w w' : World} (h : VarsOk w) (hb : Below w.heap.size w w') : VarsOk w' := by
  obtain ⟨⟨e1, h1, k1⟩, e2, h2, k2⟩ := h
  exact ⟨⟨e1, (hb.cell (p := ⟨1, 0, none⟩) (World.block_lt_of_cell? w _ h1)).trans h1, k1⟩, e2, (hb.cell (p := ⟨2, 0, none⟩) (World.block_lt_of_cell? w _ h2)).trans h2, k2⟩
def cutAt (s : ByteArray) : ByteArray × ByteArray := if 0 ≤ Lib.indexByte s.data.toList 58 then (s.extract 0 (Lib.indexByte s.data.toList 58).toNat, s.extract ((Lib.indexByte s.data.toList 58).toNat + 1) s.size) else (s, ⟨#[]⟩)
set_option maxHeartbeats 1000000 in
theorem cut_in (s : ByteArray) (hs : s.size ≤ 2097152) (w : World) : Calls Tryd.prog 41 #[.string s, .string ⟨#[58]⟩] w fun e w' => (∃ b, e = .returned (.tuple #[.string (cutAt s).1, .string (cutAt s).2, .bool b])) ∧ Below w.heap.size w w' := by
  have hge := Lib.indexByte_ge s.data.toList 58
  by_cases h0 : 0 ≤ Lib.indexByte s.data.toList 58
  · obtain ⟨i, hi⟩ := Int.eq_ofNat_of_zero_le h0
    have hlt : i < s.size := by
      obtain ⟨h4, _⟩ := Lib.indexByte_some hi
      obtain ⟨hl, _⟩ := List.getElem?_eq_some_iff.mp h4
      rw [Array.length_toList] at hl
      exact hl
    have hc : cutAt s = (s.extract 0 i, s.extract (i + 1) s.size) := by unfold cutAt; rw [if_pos h0, hi, Int.toNat_natCast]
    rw [hc]
    have c1 : (0 : Int) ≤ ↑i := by omega
    have c2 : (↑i : Int) ≤ ↑s.size := by omega
    have hw : IntKind.i64.wrap ((i : Int) + 1) = (i : Int) + 1 := by rw [i64_w]; unfold wrap64; omega
    have c3 : (0 : Int) ≤ IntKind.i64.wrap ((i : Int) + 1) := by rw [hw]; omega
    have c4 : IntKind.i64.wrap ((i : Int) + 1) ≤ ↑s.size := by rw [hw]; omega
    have hn : ((i : Int) + 1).toNat = i + 1 := by omega
    have hmx : Tryd.prog.follows .mixedOrders = true := by kernel_rfl
    go_enter Tryd.func41, Tryd.ntmps41
    go_wp2_with (go_at_call 59; refine (Tryd.stringslite_Index_one s 58 w).mono ?_; rintro e w' ⟨rfl, rfl⟩; rw [hi])
    go_region
    all_goals go_wp2
    all_goals go_ret3
    all_goals exact ⟨⟨true, by first | rfl | (rw [hw, hn]; rfl) | (simp only [hw, hn, Int.toNat_natCast]; done) | (simp only [hw, hn, Int.toNat_natCast]; rfl)⟩, by first | exact Below.refl _ _ | exact below_drew (Below.refl _ _) | exact below_drew1 (below_drew1 (Below.refl _ _)) | skip⟩
  · have hm : Lib.indexByte s.data.toList 58 = -1 := by omega
    have hc : cutAt s = (s, ⟨#[]⟩) := by unfold cutAt; rw [if_neg h0]
    rw [hc]
    go_enter Tryd.func41, Tryd.ntmps41
    go_wp2_with (go_at_call 59; refine (Tryd.stringslite_Index_one s 58 w).mono ?_; rintro e w' ⟨rfl, rfl⟩; rw [hm])
    go_ret3
    exact ⟨⟨_, rfl⟩, Below.refl _ _⟩
theorem cut_call (s : ByteArray) (hs : s.size ≤ 2097152) (w : World) : Calls Tryd.prog 22 #[.string s, .string ⟨#[58]⟩] w fun e w' => (∃ b, e = .returned (.tuple #[.string (cutAt s).1, .string (cutAt s).2, .bool b])) ∧ Below w.heap.size w w' := by
  go_enter Tryd.func22, Tryd.ntmps22
  go_wp2_with (go_at_call 41; refine (cut_in s hs w).mono ?_; rintro e w' ⟨⟨b, rfl⟩, B2⟩)
  go_ret3
  exact ⟨⟨_, rfl⟩, B2⟩
theorem atoi_ok (s : ByteArray) (hs : s.size ≤ 2097152) (v : Int) (h : Lib.atoiAll s.data.toList = .ok v) (w : World) : Calls Tryd.prog 23 #[.string s] w fun e w' => e = .returned (.tuple #[.int .i64 v, .nilIface]) ∧ Below w.heap.size w w' := by
  refine (Tryd.strconv_Atoi_ok s (by omega) v h w).mono ?_
  rintro e w' ⟨rfl, hw⟩
  refine ⟨rfl, ?_⟩
  rcases hw with rfl | ⟨t, rfl⟩
  · exact Below.refl _ _
  · exact Lib.bytesWorld_below _ _ _
theorem atoi_bad (s : ByteArray) (hs : s.size ≤ 2097152) (h : ∀ v, Lib.atoiAll s.data.toList ≠ .ok v) (w : World) (hV : VarsOk w) : Calls Tryd.prog 23 #[.string s] w fun e w' => (∃ v te p, e = .returned (.tuple #[.int .i64 v, .iface te (.pointer (some p))])) ∧ Below w.heap.size w w' := by
  obtain ⟨⟨e1, h1, k1⟩, e2, h2, k2⟩ := hV
  by_cases hr : Lib.atoiAll s.data.toList = .range
  · refine (Tryd.strconv_Atoi_range s (by omega) hr e2 w h2 k2).mono ?_
    rintro e w' ⟨N, rfl, _, _, hb⟩
    exact ⟨⟨_, _, _, rfl⟩, hb⟩
  · refine (Tryd.strconv_Atoi_neither s (by omega) h hr e1 w h1 k1).mono ?_
    rintro e w' ⟨N, rfl, _, _, hb⟩
    exact ⟨⟨_, _, _, rfl⟩, hb⟩
def numOf (s : ByteArray) : Option Int := match Lib.atoiAll s.data.toList with
  | .ok v => some v
  | _ => none
theorem numOf_some {s : ByteArray} {v : Int} (h : numOf s = some v) : Lib.atoiAll s.data.toList = .ok v := by
  unfold numOf at h
  cases hx : Lib.atoiAll s.data.toList with
  | ok u => rw [hx] at h; injection h with h; rw [h]
  | _ => rw [hx] at h; cases h
theorem numOf_none {s : ByteArray} (h : numOf s = none) : ∀ v, Lib.atoiAll s.data.toList ≠ .ok v := by
  intro v hv
  unfold numOf at h
  rw [hv] at h
  cases h
def impl_ParseLabels.f (k : Nat) (s : ByteArray) : Option (Int × List Int × Bool) := if s.size ≤ 2097152 then (impl_digitsOf.f k (cutAt s).2 50).bind fun l => match numOf (cutAt s).1 with
    | some v => (impl_areLabels.f v l).bind fun b => if b = true then (impl_labelsText.f v l).bind fun t => (if t = s then some (v, l, true) else some (0, ([] : List Int), false)) else some (0, ([] : List Int), false)
    | none => some (0, ([] : List Int), false)
  else none
theorem impl_ParseLabels.mono : ∀ a0 k, LeO (impl_ParseLabels.f k a0) (impl_ParseLabels.f (k + 1) a0) := by
  intro a0 k
  unfold impl_ParseLabels.f
  refine LeO.ite ?_ (LeO.refl _)
  exact LeO.bind (impl_digitsOf.mono _ _ _) (fun _ => LeO.refl _)
theorem cutAt_size (s : ByteArray) (hs : s.size ≤ 2097152) : (cutAt s).1.size ≤ 2097152 := by
  unfold cutAt
  split
  · show (s.extract 0 _).size ≤ _
    rw [ByteArray.size_extract]; omega
  · exact hs
set_option maxRecDepth 100000 in
set_option maxHeartbeats 4000000 in
theorem impl_ParseLabels.callsW (k : Nat) (s : ByteArray) (r1 : Int) (r2 : List Int) (r3 : Bool) (w : World) (hV : VarsOk w) (h : impl_ParseLabels.f k s = some (r1, r2, r3)) :
    Calls Tryd.prog 12 #[.string s] w fun e w' => ∃ v1_ : Value, e = .returned (.tuple #[.int .i64 r1, v1_, .bool r3]) ∧ Kd.R (Kd.int .i64) 3 w' w.heap.size (fun _ => True) v1_ r2 ∧ Below w.heap.size w w' := by
  unfold impl_ParseLabels.f at h
  split at h
  case isFalse => cases h
  rename_i hsz
  have hsz1 := cutAt_size s hsz
  obtain ⟨l, hl, h⟩ := Option.bind_eq_some_iff.mp h
  have HC := Aside0.mk (cut_call s hsz w)
  have HL := Aside0.mk hl
  have HV := Aside0.mk hV
  clear hl hV
  obtain ⟨a, ha⟩ : ∃ a, (cutAt s).1 = a := ⟨_, rfl⟩
  obtain ⟨b, hb⟩ : ∃ b, (cutAt s).2 = b := ⟨_, rfl⟩
  rw [ha] at hsz1 h
  rw [ha, hb] at HC
  rw [hb] at HL
  clear ha hb
  cases hnum : numOf a with
  | none =>
    rw [hnum] at h
    injection h with h
    injection h with e1 h
    injection h with e2 e3
    subst e1
    subst e2
    subst e3
    have HA := Aside0.mk (fun W hW => atoi_bad a hsz1 (numOf_none hnum) W hW)
    clear hnum
    go_enter Tryd.func12, Tryd.ntmps12
    go_wp2_with (first
      | (go_at_call 22; refine HC.out.mono ?_; rintro e w2 ⟨⟨b2, rfl⟩, B2⟩; have B2 := Aside0.mk B2)
      | (go_at_call 23; refine (HA.out _ (HV.out.below B2.out)).mono ?_; rintro e w3 ⟨⟨v, te, p, rfl⟩, B3⟩; have B3 := Aside0.mk (below_step B2.out B3))
      | (go_at_call 18; refine (impl_digitsOf.calls k b 50 l _ HL.out).mono ?_; rintro e w4 ⟨v4, rfl, R4, B4⟩; have B4 := Aside0.mk (below_step B3.out B4)))
    go_ret3
    exact ⟨_, rfl, Kd.R_nil _ _ _ _ _, B4.out⟩
  | some n =>
    rw [hnum] at h
    have HA := Aside0.mk (fun W => atoi_ok a hsz1 n (numOf_some hnum) W)
    clear hnum
    obtain ⟨bb, hbb, h⟩ := Option.bind_eq_some_iff.mp h
    have HBB := Aside0.mk hbb
    clear hbb
    cases bb with
    | false =>
      rw [if_neg (by decide)] at h
      injection h with h
      injection h with e1 h
      injection h with e2 e3
      subst e1
      subst e2
      subst e3
      go_enter Tryd.func12, Tryd.ntmps12
      go_wp2_with (first
        | (go_at_call 22; refine HC.out.mono ?_; rintro e w2 ⟨⟨b2, rfl⟩, B2⟩; have B2 := Aside0.mk B2)
        | (go_at_call 23; refine (HA.out _).mono ?_; rintro e w3 ⟨rfl, B3⟩; have B3 := Aside0.mk (below_step B2.out B3))
        | (go_at_call 18; refine (impl_digitsOf.calls k b 50 l _ HL.out).mono ?_; rintro e w4 ⟨v4, rfl, R4, B4⟩; have B4 := Aside0.mk (below_step B3.out B4); obtain ⟨A4, c4, rfl⟩ := Kd.R_slice R4; have R4 := Aside0.mk R4)
        | (go_at_call 24; refine (impl_areLabels.calls n A4 c4 l false _ (Kd.R_reads' R4.out).2.2 (Kd.R_reads' R4.out).2.1 HBB.out).mono ?_; rintro e w5 ⟨rfl, ⟨q, rfl⟩⟩))
      go_ret3
      exact ⟨_, rfl, Kd.R_nil _ _ _ _ _, pw_below_drewN B4.out _⟩
    | true =>
      rw [if_pos rfl] at h
      obtain ⟨t, ht, h⟩ := Option.bind_eq_some_iff.mp h
      have HT := Aside0.mk ht
      clear ht
      by_cases hts : t = s
      · rw [if_pos hts] at h
        injection h with h
        injection h with e1 h
        injection h with e2 e3
        subst e1
        subst e2
        subst e3
        have hne : (t.toList != s.toList) = false := by rw [hts]; simp
        have hne2 : (t.toList == s.toList) = true := by rw [hts]; simp
        go_enter Tryd.func12, Tryd.ntmps12
        go_wp2_with (first
          | (go_at_call 22; refine HC.out.mono ?_; rintro e w2 ⟨⟨b2, rfl⟩, B2⟩; have B2 := Aside0.mk B2)
          | (go_at_call 23; refine (HA.out _).mono ?_; rintro e w3 ⟨rfl, B3⟩; have B3 := Aside0.mk (below_step B2.out B3))
          | (go_at_call 18; refine (impl_digitsOf.calls k b 50 l _ HL.out).mono ?_; rintro e w4 ⟨v4, rfl, R4, B4⟩; have R4L := Aside0.mk (Kd.R_lower R4 B3.out.size); have B4 := Aside0.mk (below_step B3.out B4); obtain ⟨A4, c4, rfl⟩ := Kd.R_slice R4; have R4 := Aside0.mk R4)
          | (go_at_call 24; refine (impl_areLabels.calls n A4 c4 l true _ (Kd.R_reads' R4.out).2.2 (Kd.R_reads' R4.out).2.1 HBB.out).mono ?_; rintro e w5 ⟨rfl, ⟨q, rfl⟩⟩)
          | (go_at_call 25; refine (impl_labelsText.calls n A4 c4 l t _ (Kd.C_drewN (Kd.R_reads' R4.out).2.2 _) (Kd.R_reads' R4.out).2.1 HT.out).mono ?_; rintro e w6 ⟨rfl, B6⟩; have R6 := Aside0.mk (Kd.R_below (Kd.R_drewN R4L.out _) B6); have B6 := Aside0.mk (below_step (pw_below_drewN B4.out _) B6)))
        go_ret3
        exact ⟨_, rfl, R6.out, B6.out⟩
      · have hl : t.toList ≠ s.toList := fun e => hts (by rw [Lib.toList_data, Lib.toList_data] at e; exact ByteArray.ext (Array.toList_inj.mp e))
        have hne : (t.toList != s.toList) = true := bne_iff_ne.mpr hl
        have hne2 : (t.toList == s.toList) = false := beq_eq_false_iff_ne.mpr hl
        clear hl
        rw [if_neg hts] at h
        injection h with h
        injection h with e1 h
        injection h with e2 e3
        subst e1
        subst e2
        subst e3
        go_enter Tryd.func12, Tryd.ntmps12
        go_wp2_with (first
          | (go_at_call 22; refine HC.out.mono ?_; rintro e w2 ⟨⟨b2, rfl⟩, B2⟩; have B2 := Aside0.mk B2)
          | (go_at_call 23; refine (HA.out _).mono ?_; rintro e w3 ⟨rfl, B3⟩; have B3 := Aside0.mk (below_step B2.out B3))
          | (go_at_call 18; refine (impl_digitsOf.calls k b 50 l _ HL.out).mono ?_; rintro e w4 ⟨v4, rfl, R4, B4⟩; have B4 := Aside0.mk (below_step B3.out B4); obtain ⟨A4, c4, rfl⟩ := Kd.R_slice R4; have R4 := Aside0.mk R4)
          | (go_at_call 24; refine (impl_areLabels.calls n A4 c4 l true _ (Kd.R_reads' R4.out).2.2 (Kd.R_reads' R4.out).2.1 HBB.out).mono ?_; rintro e w5 ⟨rfl, ⟨q, rfl⟩⟩)
          | (go_at_call 25; refine (impl_labelsText.calls n A4 c4 l t _ (Kd.C_drewN (Kd.R_reads' R4.out).2.2 _) (Kd.R_reads' R4.out).2.1 HT.out).mono ?_; rintro e w6 ⟨rfl, B6⟩; have B6 := Aside0.mk (below_step (pw_below_drewN B4.out _) B6)))
        go_ret3
        exact ⟨_, rfl, Kd.R_nil _ _ _ _ _, B6.out⟩
/-- In a world behind one in which the variables are well. -/
theorem impl_ParseLabels.calls {w0 : World} (hV : Aside0 (VarsOk w0)) {w : World} (hB : Below w0.heap.size w0 w) (k : Nat) (s : ByteArray) (r1 : Int) (r2 : List Int) (r3 : Bool) (h : impl_ParseLabels.f k s = some (r1, r2, r3)) :
    Calls Tryd.prog 12 #[.string s] w fun e w' => ∃ v1_ : Value, e = .returned (.tuple #[.int .i64 r1, v1_, .bool r3]) ∧ Kd.R (Kd.int .i64) 3 w' w.heap.size (fun _ => True) v1_ r2 ∧ Below w.heap.size w w' :=
  impl_ParseLabels.callsW k s r1 r2 r3 w (hV.out.below hB) h
end Go.Proofs.YtmfocekebenniaaDoor.Given
