/- spec.OppositeEdges by hand (its region has a call beside loads); for all slices that read as lists. -/
import Derived.Test.YtmdhclpkbopmdaaQx0
import Derived.Test.YtmdhclpkbopmdaaQx2
import Derived.Lib.Walk
import Derived.Shelf.Abstract
import Derived.Outline
namespace Go.Proofs.Ytmdhclpkbopmdaa.Given
open Go.Proofs.Ytmdhclpkbopmdaa.Q Go.RowKit Go.Proofs.YtmdhclpkbopmdaaW.PrintWords Go.Proofs.YtmdhclpkbopmdaaW.PrintLast Go.Proofs.YtmdhclpkbopmdaaW.PrintMore
set_option linter.unusedVariables false
set_option linter.unusedSimpArgs false

theorem infoS : (Try.prog.info? 32).map (fun i => (i.zero, i.size, i.bytes)) = some (some (.slice none 0 0), 1, 24) := by kernel_rfl
/-- Are two points neighbours, as the reference says. -/
def nearR (a0 i j : Int) : Bool := (spec_opNear.f a0 i j).getD false
def edgeT (nr : Int → Int → Bool) (l : List Int) (i j : Int) : Bool := nr i j && (wrap64 (rd l i + rd l j) == 0)
def edI (nr : Int → Int → Bool) (l : List Int) (i : Int) : Nat → Nat → List (List Int) → List (List Int)
  | 0, _, x => x
  | d + 1, j, x => edI nr l i d (j + 1) (if edgeT nr l i j then x ++ [[i, (j : Int)]] else x)
def edO (nr : Int → Int → Bool) (l : List Int) : Nat → Nat → List (List Int) → List (List Int)
  | 0, _, x => x
  | d + 1, i, x => edO nr l d (i + 1) (edI nr l i (l.length - (i + 1)) (i + 1) x)
def spec_OppositeEdges.f (k : Nat) (a0 : Int) (l1 : List Int) : Option (List (List Int) × Bool) := (spec_opLabels.f k a0 l1).bind fun b => if b = true then
  (if (∀ i : Nat, i < l1.length → ∀ j : Nat, j < l1.length → (spec_opNear.f a0 i j).isSome = true) ∧ l1.length ≤ 100 then some (edO (nearR a0) l1 l1.length 0 [], true) else none) else some ([], false)
theorem spec_OppositeEdges.mono : ∀ a0 a1 k, LeO (spec_OppositeEdges.f k a0 a1) (spec_OppositeEdges.f (k + 1) a0 a1) := by
  intro a0 a1 k
  unfold spec_OppositeEdges.f
  exact LeO.bind (spec_opLabels.mono _ _ _) (fun _ => LeO.refl _)

set_option maxHeartbeats 8000000 in
set_option maxRecDepth 100000 in
theorem spec_OppositeEdges.calls (k : Nat) (a0 : Int) (A1 : Option Addr) (c1 : Nat) (l1 : List Int) (r1 : List (List Int)) (r2 : Bool) (w : World) (hr1 : Kd.C (Kd.int .i64) w A1 l1.length l1) (hc1 : l1.length ≤ c1) (h : spec_OppositeEdges.f k a0 l1 = some (r1, r2)) :
    Calls Try.prog 38 #[.int .i64 a0, .slice A1 l1.length c1] w fun e w' => ∃ v0_ : Value, e = .returned (.tuple #[v0_, .bool r2]) ∧ Kd.S (Kd.slice 3 (Kd.int .i64)) 32 w' w.heap.size (fun _ => True) v0_ r1 ∧ Below w.heap.size w w' := by
  obtain ⟨b, hb, h⟩ := Option.bind_eq_some_iff.mp h
  have HAL := Aside0.mk hb
  clear hb
  have HL := Aside0.mk hr1
  have HC := Aside0.mk hc1
  have hm := Kd.C_max hr1
  clear hr1 hc1
  cases b with
  | false =>
    simp only [Bool.false_eq_true, if_false, Option.some.injEq, Prod.mk.injEq] at h
    obtain ⟨rfl, rfl⟩ := h
    go_enter Try.func38, Try.ntmps38
    go_wp2_with fail
    refine (spec_opLabels.calls k _ _ _ l1 _ _ HL.out HC.out HAL.out).mono ?_
    rintro e w1 ⟨rfl, ⟨q, rfl⟩⟩
    go_wp2_with fail
    go_ret2
    exact ⟨_, rfl, Kd.S_nil _ _ _ _ _, by repeat (first | exact Below.refl _ _ | apply pw_below_drewN)⟩
  | true =>
    simp only [if_true] at h
    split at h
    case isFalse => cases h
    rename_i hx
    obtain ⟨hx, h100⟩ := hx
    simp only [Option.some.injEq, Prod.mk.injEq] at h
    obtain ⟨hr, rfl⟩ := h
    have HX := Aside0.mk hx
    have HR := Aside0.mk hr
    clear hx hr
    go_enter Try.func38, Try.ntmps38
    go_wp2_with fail
    refine (spec_opLabels.calls k _ _ _ l1 _ _ HL.out HC.out HAL.out).mono ?_
    rintro e w1 ⟨rfl, ⟨q, rfl⟩⟩
    go_wp2
    go_loopg [6, 15] l1.length (fun gg s6 s15 wr => ∃ (ii : Nat) (x : List (List Int)), s15 = .int .i64 ii ∧ ii ≤ l1.length ∧ l1.length - ii ≤ gg ∧ x.length ≤ ii * 100 ∧ Aside0 (Kd.S (Kd.slice 3 (Kd.int .i64)) 32 wr w.heap.size (fun _ => True) s6 x) ∧ Aside0 (Below w.heap.size w wr) ∧ Aside0 (edO (nearR a0) l1 (l1.length - ii) ii x = r1))
    case atStart => exact ⟨0, [], rfl, Nat.zero_le _, by omega, by simp, ⟨Kd.S_nil _ _ _ _ _⟩, ⟨by repeat (first | exact Below.refl _ _ | apply pw_below_drewN)⟩, HR⟩
    case round =>
      obtain ⟨ii, x, rfl, hii, hg, hxl, HO, HB, HE⟩ := hrel
      by_cases hlt : ii < l1.length
      · have hltz : (ii : Int) < (l1.length : Int) := by omega
        have i0 : 0 ≤ (ii : Int) := by omega
        have he := HE.out
        rw [show l1.length - ii = (l1.length - (ii + 1)) + 1 by omega] at he
        unfold edO at he
        have HE := Aside0.mk he
        clear he
        go_wp2
        go_loopg [6, 8] l1.length (fun gg s6 s8 wr => ∃ (jj : Nat) (x : List (List Int)), s8 = .int .i64 jj ∧ jj ≤ l1.length ∧ l1.length - jj ≤ gg ∧ x.length ≤ ii * 100 + jj ∧ Aside0 (Kd.S (Kd.slice 3 (Kd.int .i64)) 32 wr w.heap.size (fun _ => True) s6 x) ∧ Aside0 (Below w.heap.size w wr) ∧ Aside0 (edO (nearR a0) l1 (l1.length - (ii + 1)) (ii + 1) (edI (nearR a0) l1 ii (l1.length - jj) jj x) = r1))
        case atStart => exact ⟨ii + 1, x, by go_num, by omega, by omega, by omega, HO, HB, HE⟩
        case round =>
          clear HO HB HE
          obtain ⟨jj, x, rfl, hjj, hgj, hxl2, HO, HB, HE⟩ := hrel
          by_cases hlj : jj < l1.length
          · have hljz : (jj : Int) < (l1.length : Int) := by omega
            have j0 : 0 ≤ (jj : Int) := by omega
            have he := HE.out
            rw [show l1.length - jj = (l1.length - (jj + 1)) + 1 by omega] at he
            unfold edI at he
            have HE := Aside0.mk he
            clear he
            have hn := HX.out ii hlt jj hlj
            obtain ⟨nb, hnb⟩ := Option.isSome_iff_exists.mp hn
            have HNB := Aside0.mk hnb
            have hnr : nearR a0 ii jj = nb := by unfold nearR; rw [hnb]; rfl
            obtain ⟨adi, e1, hi1⟩ := Kd.at_int (Kd.C_below HL.out HB.out) ii i0 hltz
            cases e1
            obtain ⟨adi', e1, hj1⟩ := Kd.at_int (Kd.C_below HL.out HB.out) jj j0 hljz
            cases e1
            simp only [Int.toNat_natCast] at hi1 hj1
            obtain ⟨u, hu⟩ : ∃ u, (wrap64 (rd l1 ii + rd l1 jj) == 0) = u := ⟨_, rfl⟩
            have HT : Aside0 (edgeT (nearR a0) l1 ii jj = (nb && u)) := ⟨by unfold edgeT; rw [hnr, hu]⟩
            clear hn hnb hnr
            generalize rd l1 ii = x1 at hi1 hu
            generalize rd l1 jj = x2 at hj1 hu
            have hu' : (wrap64 (x1 + x2) != 0) = !u := by rw [bne, hu]
            cases nb with
            | false =>
              have HE' := Aside0.mk (show edO (nearR a0) l1 (l1.length - (ii + 1)) (ii + 1) (edI (nearR a0) l1 ii (l1.length - (jj + 1)) (jj + 1) x) = r1 by have := HE.out; rw [HT.out] at this; simpa using this)
              go_wp2_with fail
              repeat (go_quiet (first | (go_at_call 81; refine (spec_opNear.calls _ _ _ _ _ HNB.out).mono ?_; rintro e w' ⟨rfl, ⟨q', rfl⟩⟩; first | exact ⟨rfl, _, World.drewN_drewN _ _ _⟩ | exact ⟨rfl, _, Eq.trans (World.drewN_drewN _ _ _) (congrArg (World.drewN _) (Nat.add_assoc _ _ _))⟩)); try go_wp2)
              go_roundg (l1.length - (jj + 1))
              case measure => omega
              case rel => exact ⟨jj + 1, x, by go_num, by omega, by omega, by omega, ⟨by repeat (first | exact HO.out | apply Kd.S_drewN)⟩, ⟨by repeat (first | exact HB.out | apply pw_below_drewN)⟩, HE'⟩
            | true =>
              cases u with
              | false =>
                have HE' := Aside0.mk (show edO (nearR a0) l1 (l1.length - (ii + 1)) (ii + 1) (edI (nearR a0) l1 ii (l1.length - (jj + 1)) (jj + 1) x) = r1 by have := HE.out; rw [HT.out] at this; simpa using this)
                go_wp2_with fail
                repeat (go_quiet (first | (go_at_call 81; refine (spec_opNear.calls _ _ _ _ _ HNB.out).mono ?_; rintro e w' ⟨rfl, ⟨q', rfl⟩⟩; first | exact ⟨rfl, _, World.drewN_drewN _ _ _⟩ | exact ⟨rfl, _, Eq.trans (World.drewN_drewN _ _ _) (congrArg (World.drewN _) (Nat.add_assoc _ _ _))⟩)); try go_wp2)
                go_roundg (l1.length - (jj + 1))
                case measure => omega
                case rel => exact ⟨jj + 1, x, by go_num, by omega, by omega, by omega, ⟨by repeat (first | exact HO.out | apply Kd.S_drewN)⟩, ⟨by repeat (first | exact HB.out | apply pw_below_drewN)⟩, HE'⟩
              | true =>
                have HE' := Aside0.mk (show edO (nearR a0) l1 (l1.length - (ii + 1)) (ii + 1) (edI (nearR a0) l1 ii (l1.length - (jj + 1)) (jj + 1) (x ++ [[(ii : Int), (jj : Int)]])) = r1 by have := HE.out; rw [HT.out] at this; simpa using this)
                go_wp2_with fail
                go_quiet (first | (go_at_call 81; refine (spec_opNear.calls _ _ _ _ _ HNB.out).mono ?_; rintro e w' ⟨rfl, ⟨q', rfl⟩⟩; first | exact ⟨rfl, _, World.drewN_drewN _ _ _⟩ | exact ⟨rfl, _, Eq.trans (World.drewN_drewN _ _ _) (congrArg (World.drewN _) (Nat.add_assoc _ _ _))⟩))
                have LMX : Aside0 (x.length ≤ 20000) := ⟨by omega⟩
                go_wp2_with (first | ((with_reducible refine gate_dst (N := 45) rfl ?_); refine Kd.R_lit (Kd.int .i64) _ 3 ?hg (N := 45) ?hd (xs := ([(ii : Int), (jj : Int)] : List Int)) (inner := [.int .i64 ii, .int .i64 jj]) (ok := fun _ => True) (okp := fun _ => True) ?hr ?hp (fun _ hk => hk) trivial (Below.refl _ _) (Nat.le_refl _) (by simp) ?_; (case hd => rfl); (case hg => rfl); (case hr => first | (go_simp; done) | (go_simp; rfl)); (case hp => exact (Reps.one (show Kd.M (Kd.int .i64) _ _ _ (ii : Int) [.int .i64 ii] from rfl) (Reps.one (show Kd.M (Kd.int .i64) _ _ _ (jj : Int) [.int .i64 jj] from rfl) (Reps.none _ _)))); intro v137 w14 ho15 hb hg_ hnew_; clear hg_ hnew_; have n0_ := Aside0.mk (Kd.S_elder' (by (with_reducible repeat (first | apply Kd.S_alloc | apply Kd.S_drewN | apply Kd.S_drew)); exact HO.out) (Kd.R_base ho15) hb); have n1_ := Aside0.mk (Kd.R_lower ho15 (below_size (by repeat (first | (with_reducible first | exact HB.out | apply below_alloc | apply pw_below_drewN | apply below_drew1) | exact HB.out)))); have n2_ := Aside0.mk (below_step (by repeat (first | (with_reducible first | exact HB.out | apply below_alloc | apply pw_below_drewN | apply below_drew1) | exact HB.out)) hb); clear HO; clear HB; have HO := n0_; have HO138 := n1_; have HB := n2_; clear n0_ n1_ n2_; clear hb ho15; obtain ⟨Ao17, co17, eo17⟩ := Kd.R_slice HO138.out; subst eo17) | ((with_reducible refine gate_builtin (b := .append) (xs := #[.tmp 42, .tmp 46]) rfl ?_); at_builtin; refine Kd.S_append (Kd.slice 3 (Kd.int .i64)) (w0 := w) w.heap.size rfl (.tmp 42) (.tmp 46) 25 32 (.slice none 0 0) 24 rfl Try.underlying25 infoS rfl (by decide) (by omega) u6 x ([(ii : Int), (jj : Int)] : List Int) [.slice Ao17 ([(ii : Int), (jj : Int)] : List Int).length co17] (fun _ => True) (fun k_ => some k_ = (.slice Ao17 ([(ii : Int), (jj : Int)] : List Int).length co17 : Value).ownBlock) rfl rfl ?aP (fun k_ hk_ => ((Kd.R_mono (ok' := fun k_ => ((fun _ => True)) k_ ∧ some k_ ≠ (u6 : Value).ownBlock) (Kd.R_apart' (HO138.out) (Kd.S_typed HO.out) (by decide)) (fun k_ hk => ⟨trivial, hk.2⟩))).1 k_ hk_.symm) ?aF ?aO ?aB ?aS ?aL ?_; (case aP => exact Kd.M_row (Kd.R_mono (Kd.R_tight rfl (Kd.R_mono (ok' := fun k_ => ((fun _ => True)) k_ ∧ some k_ ≠ (u6 : Value).ownBlock) (Kd.R_apart' (HO138.out) (Kd.S_typed HO.out) (by decide)) (fun k_ hk => ⟨trivial, hk.2⟩))) (fun _ h_ => h_))); (case aB => exact (by repeat (first | (with_reducible first | exact HB.out | apply below_alloc | apply pw_below_drewN | apply below_drew1) | exact HB.out))); (case aF => exact (fun _ _ => trivial)); (case aO => exact (by (with_reducible repeat (first | apply Kd.S_alloc | apply Kd.S_drewN | apply Kd.S_drew)); exact Kd.S_mono HO.out (fun k_ hk => ⟨trivial, fun e_ => hk.2 e_⟩))); (case aS => exact (below_size (by repeat (first | (with_reducible first | exact HB.out | apply below_alloc | apply pw_below_drewN | apply below_drew1) | exact HB.out)))); (case aL => have := LMX.out; omega); intro v140 w16 ho hb hg hat; have n0_ := Aside0.mk (hb); have n1_ := Aside0.mk (ho); clear HB; clear HO; clear HO138; have HB := n0_; have HO := n1_; clear n0_ n1_; clear ho hb hg hat))
                go_roundg (l1.length - (jj + 1))
                case measure => omega
                case rel => exact ⟨jj + 1, x ++ [[(ii : Int), (jj : Int)]], by go_num, by omega, by omega, by simp; omega, ⟨by repeat (first | exact HO.out | apply Kd.S_drewN)⟩, ⟨by repeat (first | exact HB.out | apply pw_below_drewN)⟩, HE'⟩
          · have hljz : ¬ (jj : Int) < (l1.length : Int) := by omega
            obtain rfl : jj = l1.length := by omega
            have he := HE.out
            rw [Nat.sub_self] at he
            unfold edI at he
            have HE := Aside0.mk he
            clear he
            go_wp2_with fail
            go_roundg (l1.length - (ii + 1))
            case measure => omega
            case rel => exact ⟨ii + 1, x, by go_num, by omega, by omega, by omega, HO, HB, HE⟩
      · have hltz : ¬ (ii : Int) < (l1.length : Int) := by omega
        obtain rfl : ii = l1.length := by omega
        have he := HE.out
        rw [Nat.sub_self] at he
        have he2 : x = r1 := he
        subst he2
        clear he HE
        go_wp2
        go_ret2
        exact ⟨_, rfl, HO.out, HB.out⟩
end Go.Proofs.Ytmdhclpkbopmdaa.Given
