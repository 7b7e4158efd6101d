/- The row of the law FnExactAreTastes: its second argument, rows of numbers, is read by open_int_rows. -/
import Derived.Test.YtmdhclpkbopmdaaRows
import Derived.Test.YtmdhclpkbopmdaaLwAreTastes
import Derived.Test.YtmdhclpkbopmdaaPureFnExactAreTastes
import Derived.Deep.Matrix
import Derived.WalkKit
import Derived.ProofKit
import Derived.OpenShut
import Derived.ShutString
import Derived.ChangeOld
import Derived.Below
import Derived.SizedLaws
import Derived.Test.YtmdhclpkbopmdaaWSized
namespace Go.Proofs.Ytmdhclpkbopmdaa.fnExactAreTastes
open Go.ChangeShapes Go.WideShapes Go.ChangeAt Go.RowKit
open Go.ChangeMaps (open_string shut_string)
set_option linter.unusedVariables false
theorem own : ownKnob Try.prog.godebug = none := by kernel_rfl
theorem laidOut : laidOutB Try.prog = true := by kernel_rfl
open Go.Proofs.YtmdhclpkbopmdaaW.PrintWords in
/-- An argument that is rows of numbers, read as it lies. -/
theorem rows_of {H : Type} {enc : TypeId × Value → H} {W : World} {a : Option Addr} {len cap : Nat} {d : DataW H} {p : List MemPlace} (h : DataW.Trod enc Try.prog W 0 (fun _ => true) true 25 (.slice a len cap) d p) :
    ∃ l : List (List Int), len = l.length ∧ Kd.C (Kd.slice 3 (Kd.int .i64)) W a l.length l ∧ l.length ≤ cap ∧ l.length ≤ maxLen ∧ (∀ x ∈ l, x.length ≤ maxLen) ∧ ∀ x ∈ l, ∀ y ∈ x, (Lit.int .i64 y).wf = true := by
  obtain ⟨fuel, hf⟩ := h
  rcases Go.Deep.open_int_rows Try.underlying25 Try.underlying32 Try.underlying3 (by kernel_rfl) (by kernel_rfl) hf with ⟨hcs, _⟩ | ⟨x, le, c, A, L, C, Z, hcs, _, hl, hm, _, hr⟩
  · simp [Value.cells] at hcs
    obtain ⟨rfl, rfl, rfl⟩ := hcs
    exact ⟨[], rfl, Kd.C_nil _ _, Nat.le_refl _, Nat.zero_le _, fun x hx => (by cases hx), fun x hx => (by cases hx)⟩
  · simp [Value.cells] at hcs
    obtain ⟨rfl, rfl, rfl⟩ := hcs
    have hlen : ∀ r, r < len → ((Z r).take (L r)).length = L r := fun r hr' => by
      obtain ⟨_, h1, _, h3, _⟩ := hr r (Nat.lt_of_lt_of_le hr' hl)
      rw [List.length_take, h3]
      omega
    have hL : ((List.range len).map fun r => (Z r).take (L r)).length = len := by rw [List.length_map, List.length_range]
    refine ⟨(List.range len).map fun r => (Z r).take (L r), hL.symm, ⟨rfl, by rw [hL]; unfold maxLen at hm; omega, fun _ => ⟨x, rfl, fun j q hj => ?_⟩⟩, by rw [hL]; exact hl, by rw [hL]; exact Nat.le_trans hl hm, fun y hy => ?_, fun y hy z hz => ?_⟩
    · have hjl : j < len := by obtain ⟨h, _⟩ := List.getElem?_eq_some_iff.1 hj; rwa [hL] at h
      have hq : q = (Z j).take (L j) := by rw [List.getElem?_map, List.getElem?_range hjl] at hj; exact (Option.some.inj hj).symm
      have hn := hlen j hjl
      obtain ⟨h0, h1, h2, h3, h4, h5, h6⟩ := hr j (Nat.lt_of_lt_of_le hjl hl)
      refine ⟨[.slice (A j) q.length (C j)], rfl, ⟨A j, C j, rfl, by rw [hq, hn]; exact h1, Kd.C_of_reads (d := (0 : Int)) (h1 := fun _ => rfl) ⟨rfl, by rw [hq, hn]; unfold maxLen at h2; omega, fun hpos => ?_⟩⟩, fun i u hu => ?_⟩
      · rw [hq, hn] at hpos
        cases hA : A j with
        | none => have := h5 hA; omega
        | some ad =>
          refine ⟨ad, rfl, fun i hi => ?_⟩
          rw [hq, hn] at hi
          obtain ⟨_, h7⟩ := h6 ad hA
          rw [h7 i (by omega), hq, List.getD_eq_getElem?_getD, List.getD_eq_getElem?_getD, List.getElem?_take_of_lt hi]
      · cases i with
        | zero =>
          obtain rfl := Option.some.inj hu
          have hsz : (Kd.slice 3 (Kd.int .i64)).sz = 1 := rfl
          rw [hsz, Nat.mul_one, Nat.add_zero, h0, hq, hn]
        | succ i => simp at hu
    · obtain ⟨r, hr1, rfl⟩ := List.mem_map.1 hy
      have hrl := List.mem_range.1 hr1
      rw [hlen r hrl]
      obtain ⟨_, h1, h2, _⟩ := hr r (Nat.lt_of_lt_of_le hrl hl)
      exact Nat.le_trans h1 h2
    · obtain ⟨r, hr1, rfl⟩ := List.mem_map.1 hy
      obtain ⟨_, _, _, _, h4, _⟩ := hr r (Nat.lt_of_lt_of_le (List.mem_range.1 hr1) hl)
      exact h4 z (List.mem_of_mem_take hz)
set_option maxRecDepth 100000 in
theorem lifted (os : Os) (started : os.Started) (H : Type) (enc : TypeId × Value → H) :
    ReturnsInHanded {} Try.checked os 4 .any (Rows.fnExactAreTastesSpec.pre6 enc Try.prog Try.f4 Rows.fnExactAreTastesRow.domain false) (Rows.fnExactAreTastesSpec.post enc Try.prog Try.f4 false true false false) := by
  refine returnsInHanded_of_change_sized (C := Try.checked) own started (by kernel_rfl) Try.func4
    (ChangeSpec.witness6 (enc := enc) (C := Try.checked) false ⟨#[], #[.int .i64 0, .slice none 0 0], []⟩ 8 (by kernel_rfl) (by kernel_rfl) (by kernel_rfl) (by kernel_rfl)) ?_
  intro W base args ds gs before hval0 hW hcnd hsz0 _
  have hsz : (DataW.weightsEach Try.prog (Try.f4.params.toList ++ Rows.fnExactAreTastesSpec.plain.varTypes Try.prog) (ds ++ gs)).all (· ≤ reachBytes) = true := hsz0
  have hval : ∀ (j : Nat) t v, Try.f4.params[j]? = some t → args[j]? = some v → Value.okWide Try.prog W .any base t v := hval0
  have hW' := hW
  obtain ⟨p, q, hA0, hV, rfl, hfz, hnd⟩ := hW
  have hA : DataW.TrodAll enc Try.prog W 0 (fun _ => true) true Try.f4.params.toList args.toList ds p := hA0
  rw [Try.params4] at hA hval hsz
  obtain ⟨v0, vs0, d0, ds0, p0, q0, hargs, rfl, rfl, h0, r0⟩ := trodAll_cons hA
  obtain ⟨v1, vs1, d1, ds1, p1, q1, rfl, rfl, rfl, h1, r1⟩ := trodAll_cons r0
  obtain ⟨rfl, rfl, rfl⟩ := trodAll_nil r1
  obtain rfl : args = #[v0, v1] := by cases args; simp_all
  obtain ⟨rfl, rfl⟩ := trodVars_none hV
  obtain ⟨a0, rfl, rfl, rfl, w0⟩ := open_int Try.underlying3 (hval 0 3 v0 rfl rfl) h0
  obtain ⟨a1, len1, cap1, rfl⟩ := okWide_slice Try.underlying25 (hval 1 25 v1 rfl rfl)
  have k1 := h1
  have lt1 : ∀ x ∈ p1, x.block < W.heap.size := by obtain ⟨m, hm⟩ := k1; exact DataW.trod_lt m _ _ _ hm
  obtain ⟨l, rfl, hr, hc, hl, hx, hw⟩ := rows_of h1
  clear hA0 hval0 hsz0 hsz
  refine (Q.laws_FnExactAreTastes.walk Pure.FnExactAreTastes a0 a1 cap1 l W w0 hr hc hl hx hw).mono fun e W' ⟨he, bel⟩ => ?_
  subst he
  exact ⟨_, rfl, _, _, _, [], _, [], hW', trodAll_mk1 (shut_bool Try.underlying4 _), (trodAll_cons_mk (shut_int Try.underlying3 w0) (trodAll_cons_mk (Below.trod laidOut (by kernel_rfl) (of_decide_eq_true (by kernel_rfl)) k1 bel lt1) trodAll_mk0)), rfl, bel.frame _, fun h => by cases h⟩
theorem over : Rows.fnExactAreTastesRow.holds Try.pinned (OpenSpec.ofChange Rows.fnExactAreTastesSpec) :=
  OpenClaim.holds_of_wide 4 Try.f4 rfl rfl rfl rfl rfl rfl rfl ⟨rfl, rfl, rfl, rfl, rfl⟩ rfl rfl rfl rfl rfl (by kernel_rfl) Try.func4 (by kernel_rfl)
    (of_decide_eq_true (by kernel_rfl)) (by unfold Func.isWrapper; first | (rw [if_pos (by decide +kernel)]; kernel_rfl) | (rw [if_neg (by decide +kernel)]; exact ⟨rfl, rfl⟩))
    (fun os started H enc _ => lifted os started H enc)
theorem proved : Rows.FnExactAreTastesSaid := over
#print axioms proved
end Go.Proofs.Ytmdhclpkbopmdaa.fnExactAreTastes
namespace Go.Proofs.Ytmdhclpkbopmdaa
/-- The row, under a short name, for the claim. -/
theorem fnExactAreTastes_holds : Rows.FnExactAreTastesSaid := fnExactAreTastes.proved
end Go.Proofs.Ytmdhclpkbopmdaa
