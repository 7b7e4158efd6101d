/- laws.markIntSS by hand: rows of rows of the call's own, each written; for all of them. -/
import Derived.Test.YtcnplmajlanmdaaQx0
import Derived.Test.YtcnplmajlanmdaaQx1
import Derived.Lib.Walk
import Derived.Shelf.Abstract
import Derived.Outline
namespace Go.Proofs.Ytcnplmajlanmdaa.Given
open Go.Proofs.Ytcnplmajlanmdaa.Q Go.RowKit Go.Proofs.YtcnplmajlanmdaaW.PrintWords Go.Proofs.YtcnplmajlanmdaaW.PrintLast Go.Proofs.YtcnplmajlanmdaaW.PrintMore
set_option linter.unusedVariables false
set_option linter.unusedSimpArgs false

def laws_markIntSS.f (k : Nat) : List (List Int) → Int → Option (Int × List (List Int))
  | [], x => some (x, [])
  | r :: t, x => (laws_markIntS.f k r x).bind fun p => (laws_markIntSS.f k t p.1).bind fun q => some (q.1, p.2 :: q.2)
theorem laws_markIntSS.mono : ∀ (k : Nat) (l : List (List Int)) (x : Int), LeO (laws_markIntSS.f k l x) (laws_markIntSS.f (k + 1) l x) := by
  intro k l
  induction l with
  | nil => intro x; exact LeO.refl _
  | cons r t ih =>
    intro x
    unfold laws_markIntSS.f
    exact LeO.bind (laws_markIntS.mono _ _ k) (fun p => LeO.bind (ih p.1) (fun _ => LeO.refl _))
theorem markIntSS_len (k : Nat) : ∀ (l : List (List Int)) (x : Int) (p : Int × List (List Int)), laws_markIntSS.f k l x = some p → p.2.length = l.length := by
  intro l
  induction l with
  | nil => intro x p h; cases h; rfl
  | cons r t ih =>
    intro x p h
    unfold laws_markIntSS.f at h
    obtain ⟨q, _, h⟩ := Option.bind_eq_some_iff.mp h
    obtain ⟨s, hs, h⟩ := Option.bind_eq_some_iff.mp h
    cases h
    simp [ih _ _ hs]

abbrev kSS : Kd (List Int) := Kd.slice 3 (Kd.int .i64)
set_option maxHeartbeats 4000000 in
set_option maxRecDepth 100000 in
theorem laws_markIntSS.calls (k : Nat) (v : Value) (rs : List (List Int)) (x r1 : Int) (rs' : List (List Int)) (w0 w : World) (hB : Below w0.heap.size w0 w) (ho : Kd.S kSS 22 w w0.heap.size (fun _ => True) v rs) (h : laws_markIntSS.f k rs x = some (r1, rs')) :
    Calls Try.prog 27 #[v, .int .i64 x] w fun e w' => e = .returned (.int .i64 r1) ∧ Kd.S kSS 22 w' w0.heap.size (fun _ => True) v rs' ∧ Below w0.heap.size w0 w' := by
  have HB := Aside0.mk hB
  have HO := Aside0.mk ho
  have HF := Aside0.mk h
  clear hB ho h
  obtain ⟨A, c, rfl⟩ := Kd.S_slice HO.out
  have hmax := Kd.C_max (Kd.S_reads' HO.out).2.2
  go_enter Try.func27, Try.ntmps27
  go_wp2
  go_loopg [1, 5] rs.length (fun gg s1 s5 wr => ∃ (x : Int) (ii : Nat) (l t' : List (List Int)), s1 = .int .i64 x ∧ s5 = .int .i64 ii ∧ ii ≤ rs.length ∧ rs.length - ii ≤ gg ∧ Aside0 (l.length = rs.length) ∧ Aside0 (Below w0.heap.size w0 wr) ∧ Aside0 (Kd.S kSS 22 wr w0.heap.size (fun _ => True) (.slice A rs.length c) l) ∧ Aside0 (laws_markIntSS.f k (l.drop ii) x = some (r1, t')) ∧ Aside0 (l.take ii ++ t' = rs'))
  case atStart => exact ⟨x, 0, rs, rs', rfl, rfl, Nat.zero_le _, by omega, ⟨rfl⟩, HB, HO, ⟨by simpa using HF.out⟩, ⟨by simp⟩⟩
  case round =>
    clear HB HO HF
    obtain ⟨x, ii, l, t', rfl, rfl, hii, hg, HLEN, HB, HO, HF, HT⟩ := hrel
    by_cases hlt : ii < rs.length
    · have hltz : (ii : Int) < (rs.length : Int) := by omega
      have i0 : 0 ≤ (ii : Int) := by omega
      have hil : ii < l.length := by rw [HLEN.out]; exact hlt
      have hf := HF.out
      rw [List.drop_eq_getElem_cons hil] at hf
      unfold laws_markIntSS.f at hf
      obtain ⟨⟨y, row'⟩, hy, hf⟩ := Option.bind_eq_some_iff.mp hf
      obtain ⟨⟨z, rest'⟩, hz, hf⟩ := Option.bind_eq_some_iff.mp hf
      have hf' := Option.some.inj hf
      obtain ⟨rfl, rfl⟩ := Prod.mk.inj hf'
      clear hf hf' HF
      have HY := Aside0.mk hy
      have HZ := Aside0.mk hz
      clear hy hz
      obtain ⟨g, hA⟩ : ∃ g, A = some ⟨g, 0, none⟩ := by
        cases A with
        | none =>
          exfalso
          have hs := Kd.S_reads' HO.out
          obtain ⟨ad, e, _⟩ := hs.2.2.2.2 (by omega)
          cases e
        | some ad =>
          obtain ⟨g, rfl⟩ := Kd.R_head (Kd.S_R HO.out)
          exact ⟨g, rfl⟩
      subst hA
      obtain ⟨oki, cs, hcl, hM, hcell, hoki, hH⟩ := Kd.S_lend HO.out [] ii i0 hltz
      obtain ⟨vr, rfl, hR⟩ := hM
      have hcc : wr.cell? ⟨g, ii, none⟩ = some vr := by
        have := hcell 0 vr rfl
        simpa [kSS, Kd.slice] using this
      have hrow : l.getD ii [] = l[ii] := by rw [List.getD_eq_getElem?_getD, List.getElem?_eq_getElem hil]; rfl
      rw [Int.toNat_natCast, hrow] at hR
      have HRW := Aside0.mk hR
      have HH := Aside0.mk hH
      clear hcell hR hH hrow hcl
      go_wp2_with fail
      refine (laws_markIntS.calls k oki vr l[ii] x y row' w0 _ HB.out HRW.out HY.out).mono ?_
      rintro e w1 ⟨rfl, hR1, hB1, hK1⟩
      have hH1 := Kd.H_kept (Kd.H_widen HH.out) hK1 (fun k_ _ hn hs => hn (.inl hs))
      have hS1 := Kd.H_back (x' := row') hH1 (⟨vr, rfl, hR1⟩ : kSS.M w1 w0.heap.size (fun k_ => (oki k_ ∨ wr.heap.size ≤ k_)) row' [vr]) (fun k_ hk => hk.elim .inl (fun h2 => .inr ⟨trivial, h2⟩))
      rw [Int.toNat_natCast] at hS1
      have HS1 := Aside0.mk hS1
      have HB1 := Aside0.mk hB1
      clear hH1 hS1 hB1 hK1 hR1 HB HO HH HRW
      go_wp2_with fail
      go_roundg (rs.length - (ii + 1))
      case measure => omega
      case rel =>
        refine ⟨y, ii + 1, l.set ii row', rest', rfl, by go_num, by omega, by omega, ⟨by rw [List.length_set]; exact HLEN.out⟩, HB1, HS1, ⟨?_⟩, ⟨?_⟩⟩
        · rw [List.drop_set_of_lt (by omega)]; exact HZ.out
        · rw [← HT.out, List.take_add_one, List.getElem?_set_self hil, List.take_set_of_le (by omega)]
          simp
    · have hltz : ¬ (ii : Int) < (rs.length : Int) := by omega
      obtain rfl : ii = rs.length := by omega
      have hf := HF.out
      rw [List.drop_of_length_le (by rw [HLEN.out]; exact Nat.le_refl _)] at hf
      have hf' := Option.some.inj hf
      obtain ⟨rfl, rfl⟩ := Prod.mk.inj hf'
      have ht : Aside0 (l = rs') := ⟨by rw [← HT.out, List.append_nil, List.take_of_length_le (by rw [HLEN.out]; exact Nat.le_refl _)]⟩
      clear hf hf' HF HT
      go_wp2
      go_ret
      exact ⟨rfl, by rw [← ht.out]; exact HO.out, HB.out⟩
end Go.Proofs.Ytcnplmajlanmdaa.Given
