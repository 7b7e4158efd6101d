/- slices.Repeat of one number by hand, for 1 to 30 times. -/
import Derived.Test.YtenaefpbjblmbaaQx0
import Derived.Test.YtenaefpbjblmbaaQx2
import Derived.Test.YtenaefpbjblmbaaGp
import Derived.Lib.Walk
import Derived.Laws.CopyOwn
import Derived.Shelf.Abstract
import Derived.Outline
namespace Go.Proofs.Ytenaefpbjblmbaa.Given
open Go.Proofs.Ytenaefpbjblmbaa.Q Go.RowKit Go.Proofs.YtenaefpbjblmbaaW.PrintWords Go.Proofs.YtenaefpbjblmbaaW.PrintLast Go.Proofs.YtenaefpbjblmbaaW.PrintMore
set_option linter.unusedVariables false
set_option linter.unusedSimpArgs false

theorem mul1 (n : Nat) (h0 : 1 ≤ n) (h1 : n ≤ 30) : bits_Mul.f 1 n = some (0, (n : Int)) := by
  have h : ∀ m : Fin 31, bits_Mul.f 1 ((m.val : Nat) : Int) = some (0, ((m.val : Nat) : Int)) := by decide +kernel
  exact h ⟨n, by omega⟩
/-- The cells of a row that is being filled. -/
def filled (v : Int) (n k : Nat) : List Value := List.replicate k (.int .i64 v) ++ List.replicate (n - k) (.int .i64 0)
theorem filled_len (v : Int) (n k : Nat) (h : k ≤ n) : (filled v n k).length = n := by simp [filled]; omega
theorem filled_splice (v : Int) (n k m : Nat) (h : k + m ≤ n) : splice (filled v n k) k (List.replicate m (.int .i64 v)) = filled v n (k + m) := by
  unfold splice filled
  rw [List.take_left' (by simp), List.length_replicate, List.drop_append, List.drop_of_length_le (by simp), List.length_replicate, List.drop_replicate, List.nil_append]
  rw [show n - k - (k + m - k) = n - (k + m) by omega, ← List.append_assoc, List.replicate_append_replicate]
/-- A block whose cells are these numbers. -/
def RowI (W : World) (g : Nat) (l : List Int) : Prop := W.heap[g]? = some (.cells (l.map (Value.int .i64)).toArray 3 (0, 0))
theorem R_block (w' : World) (B g : Nat) (l : List Int) (hB : B ≤ g) (hm : l.length ≤ 1000000) (h : w'.heap[g]? = some (.cells (l.map (Value.int .i64)).toArray 3 (0, 0))) :
    Kd.R (Kd.int .i64) 3 w' B (fun _ => True) (.slice (some ⟨g, 0, none⟩) l.length l.length) l := by
  refine ⟨fun _ _ => trivial, l.map (Value.int .i64), ⟨by simp [Kd.int, Kd.scalar], .inr ⟨g, l.length, _, rfl, hB, h, Nat.le_refl _, by unfold maxLen; omega, by simp [Kd.int, Kd.scalar], by simp [Kd.int, Kd.scalar, List.take_of_length_le]⟩⟩, ⟨by simp [Kd.int, Kd.scalar], fun j p hj => ?_⟩⟩
  show List.take 1 (List.drop (j * 1) (l.map (Value.int .i64))) = [Value.int .i64 p]
  obtain ⟨hl, hp⟩ := List.getElem?_eq_some_iff.mp hj
  rw [Nat.mul_one, List.drop_eq_getElem_cons (by simpa using hl)]
  simp [hp]

theorem szI : (Try.prog.info? 3).map (·.size) = some 1 := by kernel_rfl
theorem made0 {v : Int} (n : Nat) : madeCells #[Value.int .i64 0] n = (filled v n 0).toArray := by
  apply Array.ext
  · simp [size_madeCells, filled]
  · intro i h1 h2
    simp [madeCells, filled]
    rw [Nat.mod_one]; rfl
theorem run_mk (n : Nat) (h1 : n ≤ 30) (W : World) : (Instr.makeSlice 24 (.int .i64 n) (.int .i64 n)).run Try.prog W = .ok (.slice (some ⟨W.heap.size, 0, none⟩) n n) (W.alloc (.cells (Array.replicate n (Value.int .i64 0)) 3)) := by
  have hi := infoC
  obtain ⟨i0, hi, hzz⟩ := Option.map_eq_some_iff.1 hi
  simp only [Prod.mk.injEq] at hzz
  obtain ⟨hz0, hz1, hz2⟩ := hzz
  have h := run_make (P := Try.prog) W 24 3 i0 (.int .i64 0) Try.underlying24 hi hz0 .i64 .i64 (n : Int) (n : Int) (by omega) (by omega) (by rw [hz2]; omega) (by omega)
  rw [h, hz1]
  have e : madeCells (Value.int .i64 0).cells ((n : Int).toNat * 1) = Array.replicate n (Value.int .i64 0) := by
    have := made0 (v := 0) n
    show madeCells #[Value.int .i64 0] _ = _
    simpa [filled] using this
  rw [e]
  simp

set_option maxHeartbeats 4000000 in
set_option maxRecDepth 100000 in
theorem Repeat_one (v : Int) (Ax : Option Addr) (cx n : Nat) (w : World) (hx : Kd.C (Kd.int .i64) w Ax 1 [v]) (h0 : 1 ≤ n) (h1 : n ≤ 30) :
    Calls Try.prog 85 #[.slice Ax 1 cx, .int .i64 n] w fun e w' => e = .returned (.slice (some ⟨w.heap.size, 0, none⟩) n n) ∧ RowI w' w.heap.size (List.replicate n v) ∧ Below w.heap.size w w' := by
  have HM := Aside0.mk (mul1 n h0 h1)
  obtain ⟨adx, e1, hx0⟩ := Kd.at_int hx 0 (by omega) (by omega)
  cases e1
  have hx0 : w.cell? (adx.add 0) = some (.int .i64 v) := hx0
  have HX := Aside0.mk hx0
  clear hx0 hx
  go_enter Try.func85, Try.ntmps85
  go_wp2_with fail
  refine (bits_Mul.calls _ _ _ _ _ HM.out).mono ?_
  rintro e w1 ⟨rfl, ⟨q, rfl⟩⟩
  have MK := run_mk n h1
  have F0 : filled v n 0 = List.replicate n (Value.int .i64 0) := by simp [filled]
  have HF0 := Aside0.mk F0
  clear F0
  have X1 : ((w.drewN q).alloc (.cells (Array.replicate n (Value.int .i64 0)) 3)).cell? (adx.add 0) = some (.int .i64 v) := by
    have hB : Below w.heap.size w ((w.drewN q).alloc (.cells (Array.replicate n (Value.int .i64 0)) 3)) := below_alloc (pw_below_drewN (Below.refl _ _) _) _
    exact pw_cell_below hB HX.out
  have HX1 := Aside0.mk X1
  clear X1
  go_wp2_with (refine wpList_copy_splice (o := ⟨some 33, _, _, _, _, _⟩) rfl (.tmp 31) (.tmp 32) 24 24 rfl 3 Try.underlying24 szI (some ⟨w.heap.size, 0, none⟩) (some adx) n n 1 cx rfl rfl w.heap.size 0 (List.replicate n (Value.int .i64 0)) 3 ?g0 [.int .i64 v] ?n0 ?p0 ?f0 ?o0 w.heap.size w ?b0 (Nat.le_refl _) ?_; (case g0 => simp [World.alloc]); (case n0 => exact (Nat.min_eq_left h0).symm); (case p0 => intro _; refine ⟨rfl, adx, rfl, ?_⟩; intro j u hu; cases j with | zero => (simp at hu; subst hu; exact HX1.out) | succ j => simp at hu); (case f0 => simp; omega); (case o0 => intro u hu; simp at hu; subst hu; rfl); (case b0 => exact below_alloc (pw_below_drewN (Below.refl _ _) _) _); intro w2 HG HB)
  have E1 : splice (List.replicate n (Value.int .i64 0)) 0 [Value.int .i64 v] = filled v n 1 := by
    have := filled_splice v n 0 1 (by omega)
    simpa [filled] using this
  have HG := Aside0.mk (show w2.heap[w.heap.size]? = some (.cells (filled v n 1).toArray 3 (0, 0)) by rw [← E1]; exact HG.out)
  have HB := Aside0.mk HB
  clear E1 MK
  go_wp2
  go_loopg [8] n (fun gg s8 wr => ∃ kk : Nat, 1 ≤ kk ∧ kk ≤ n ∧ n - kk ≤ gg ∧ s8 = .int .i64 kk ∧ Aside0 (wr.heap[w.heap.size]? = some (.cells (filled v n kk).toArray 3 (0, 0))) ∧ Aside0 (Below w.heap.size w wr))
  case atStart => exact ⟨1, by omega, by omega, by omega, by first | rfl | simp, HG, HB⟩
  case round =>
    clear HG HB
    obtain ⟨kk, k1, kn, hg, rfl, HG, HB⟩ := hrel
    by_cases hlt : kk < n
    · have hltz : (kk : Int) < (n : Int) := by omega
      obtain ⟨m, hm⟩ : ∃ m, Nat.min kk (n - kk) = m := ⟨_, rfl⟩
      have hm1 : m ≤ kk := hm ▸ Nat.min_le_left _ _
      have hm2 : m ≤ n - kk := hm ▸ Nat.min_le_right _ _
      have hm3 : 1 ≤ m := by rw [← hm]; exact Nat.le_min.mpr ⟨k1, by omega⟩
      have HMM := Aside0.mk hm
      clear hm
      have S0 : Aside0 (∀ j u, (List.replicate m (Value.int .i64 v))[j]? = some u → wr.cell? ((⟨w.heap.size, 0, none⟩ : Addr).add j) = some u) := ⟨by
        intro j u hu
        obtain ⟨hj, hu⟩ := List.getElem?_eq_some_iff.mp hu
        simp at hu hj
        subst hu
        rw [add_at, Nat.zero_add]
        refine (blk_cell HG.out j).trans ?_
        have h2 : (filled v n kk)[j]? = some (Value.int .i64 v) := by
          unfold filled
          rw [List.getElem?_append_left (by rw [List.length_replicate]; omega), List.getElem?_replicate, if_pos (by omega)]
        simpa using h2⟩
      go_wp2_with fail
      go_region_law (refine step_copy_splice rfl (.tmp 41) (.tmp 44) 24 24 rfl 3 Try.underlying24 szI (some ⟨w.heap.size, kk, none⟩) (some ⟨w.heap.size, 0, none⟩) (n - kk) (n - kk) kk n ?d0 ?s0 w.heap.size kk (filled v n kk) 3 ?g0 (List.replicate m (.int .i64 v)) ?n0 ?p0 ?f0 ?o0 w.heap.size w ?b0 (Nat.le_refl _) ?_; (case d0 => (simp [Act.eval, Act.put]; omega)); (case s0 => simp [Act.eval, Act.put]); (case g0 => exact HG.out); (case n0 => simp; exact HMM.out.symm); (case p0 => intro _; exact ⟨rfl, _, rfl, S0.out⟩); (case f0 => simp [filled]; omega); (case o0 => intro u hu; simp at hu; obtain ⟨_, rfl⟩ := hu; rfl); (case b0 => exact (by repeat (first | exact HB.out | apply below_drew1 | apply pw_below_drewN))); intro w4 HG4 HB4)
      have hs : IntKind.i64.wrap ((kk : Int) + (m : Int)) = (kk : Int) + (m : Int) := by rw [IntKind.wrap_i64]; omega
      have HG4 := Aside0.mk HG4
      have HB4 := Aside0.mk HB4
      go_wp2
      go_roundg (n - (kk + 1))
      case measure => omega
      case rel =>
        refine ⟨kk + m, by omega, by omega, by omega, by first | rfl | go_num, ⟨?_⟩, HB4⟩
        rw [← filled_splice v n kk m (by omega)]
        exact HG4.out.out
    · have hltz : ¬ (kk : Int) < (n : Int) := by omega
      obtain rfl : kk = n := by omega
      have HE : Aside0 (RowI wr w.heap.size (List.replicate kk v)) := ⟨by unfold RowI; rw [HG.out]; simp [filled]⟩
      go_wp2
      go_ret
      exact ⟨rfl, HE.out, HB.out⟩
end Go.Proofs.Ytenaefpbjblmbaa.Given
