/- slices.Chunk's iterator over a slice of ints whose length the size divides, by hand; for every loop body that keeps the iterator's own boxes. -/
import Derived.Test.YtmfocekebenniaaDoorQx4
import Derived.RangeFuncNested
import Derived.RangeFuncBound
import Derived.RangeFuncCalls
import Derived.RangeFuncLeaves
import Derived.RangeFuncBox
import Derived.Shelf.Abstract
import Derived.WalkKit
import Derived.OwnWalkIn
import Derived.TacticsInMore
import Derived.LoopNIn
import Derived.LoopIn
import Derived.Maps.AppendAt
namespace Go.Proofs.YtmfocekebenniaaDoor.Given
open Go.Proofs.YtmfocekebenniaaDoor.Q Go.RowKit Go.Shelf Go.Proofs.YtmfocekebenniaaDoorW.PrintWords Go.Proofs.YtmfocekebenniaaDoorW.PrintLast Go.Proofs.YtmfocekebenniaaDoorW.PrintMore
set_option linter.unusedVariables false
set_option linter.unusedSimpArgs false
attribute [local go_sem] Oper.semAt_some
/-- What a round keeps. -/
def KpC (n₀ bs bn : Nat) (W W' : World) : Prop := Below n₀ W W' ∧ W'.heap[bs]? = W.heap[bs]? ∧ W'.heap[bn]? = W.heap[bn]?
theorem KpC.t {n₀ bs bn : Nat} {A B C : World} (h : KpC n₀ bs bn A B) (k : KpC n₀ bs bn B C) : KpC n₀ bs bn A C := ⟨h.1.trans k.1, k.2.1.trans h.2.1, k.2.2.trans h.2.2⟩
/-- The chunks that have come. -/
def upC (N k : Nat) : List (Fin N) := (List.finRange N).take k
theorem upC_succ {N k : Nat} (h : k < N) : upC N (k + 1) = upC N k ++ [⟨k, h⟩] := by
  unfold upC
  rw [List.take_succ_eq_append_getElem (by simpa using h)]
  simp
theorem upC_length {N k : Nat} (h : k ≤ N) : (upC N k).length = k := by unfold upC; simp [h]
theorem upC_all (N : Nat) : upC N N = List.finRange N := by unfold upC; rw [List.take_of_length_le (by simp)]
def encC (b off C : Nat) {N : Nat} (x : Fin N) : Array Value := #[.slice (some ⟨b, off + x.val * C, none⟩) C C]
theorem merge_ {P G : Prop} (f : Aside0 P → G) (p : P) : G := f ⟨p⟩
set_option maxRecDepth 100000 in
set_option maxHeartbeats 4000000 in
theorem chunk1_in (F : Fence) (n : Nat) (hf : F.fn 55) (hro : F.round = none) (hn : 1 ≤ n) (l bs bn n₀ b off len cap N C : Nat) (hC : 1 ≤ C) (hlen : len = N * C) (hcap : len ≤ cap) (hbig : len ≤ 1000) (J Jx : List (Fin N) → World → Prop)
    (hY : ∀ pre x W, J pre W → pre.length < N → YieldAt F (n - 1) Tryd.prog l (encC b off C x) W fun e W' =>
      (e = .returned (.bool true) ∧ J (pre ++ [x]) W' ∧ KpC n₀ bs bn W W') ∨ (e = .returned (.bool false) ∧ Jx (pre ++ [x]) W'))
    (W : World) (hJd : ∀ s A, J s A → J s A.drew) (hbs : W.heap[bs]? = some (.cells #[.slice (some ⟨b, off, none⟩) len cap] 22 (0, 0))) (hbn : W.heap[bn]? = some (.cells #[.int .i64 C] 3 (0, 0))) (h0 : J [] W) :
    CallsIn F n Tryd.prog 55 #[.func (.yield l) #[] #[], .pointer (some ⟨bs, 0, none⟩), .pointer (some ⟨bn, 0, none⟩)] W fun e W' => (∃ v, e = .returned v) ∧
      ((∃ ys, ys = List.finRange N ∧ J ys W') ∨ (∃ pre, True ∧ Jx pre W')) := by
  refine callsIn_of_wp Tryd.func55 rfl hf ?_ hro
  simp only [Tryd.ntmps55, List.size_toArray, List.length_cons, List.length_nil, Nat.reduceAdd, Nat.reduceSub, Array.replicate_succ, Array.replicate_zero, List.push_toArray, List.append_toArray, List.nil_append, List.cons_append]
  gi_wp2
  gi_loopw [4] (fun i wr => ∃ k : Nat, k ≤ N ∧ i = .int .i64 ((k * C : Nat) : Int) ∧ J (upC N k) wr ∧ wr.heap[bs]? = some (.cells #[.slice (some ⟨b, off, none⟩) len cap] 22 (0, 0)) ∧ wr.heap[bn]? = some (.cells #[.int .i64 C] 3 (0, 0)))
    (fun i _ => len - (intOf i).toNat)
  case atStart => exact ⟨0, Nat.zero_le _, by simp, h0, hbs, hbn⟩
  case round =>
    obtain ⟨k, hk, rfl, hJs, hs, hc⟩ := hrel
    have s0 : wr.cell? ⟨bs, 0, none⟩ = some (.slice (some ⟨b, off, none⟩) len cap) := (blk_cell hs 0).trans rfl
    have c0 : wr.cell? ⟨bn, 0, none⟩ = some (.int .i64 C) := (blk_cell hc 0).trans rfl
    have HS := Aside0.mk hs
    have HC := Aside0.mk hc
    have HJ := Aside0.mk hJs
    have HL := Aside0.mk hlen
    clear hs hc hJs hlen
    by_cases hlt : k < N
    · have hm : k * C + C ≤ len := by
        rw [HL.out, ← Nat.succ_mul]; exact Nat.mul_le_mul_right _ hlt
      obtain ⟨kc, hkc⟩ : ∃ kc, k * C = kc := ⟨_, rfl⟩
      have HK := Aside0.mk hkc
      rw [hkc] at hm ⊢
      have hmx : Tryd.prog.follows .mixedOrders = true := by kernel_rfl
      have hnl : ¬ len - kc < C := by omega
      have hx2 := upC_length (N := N) (Nat.le_of_lt hlt)
      have HU := Aside0.mk hx2
      have HLT := Aside0.mk hlt
      clear hkc hx2 hlt hk
      gi_wp2
      apply merge_
      · intro H
        gi_region
        all_goals exact H.out
      have s0 : (wr.drew).cell? ⟨bs, 0, none⟩ = some (.slice (some ⟨b, off, none⟩) len cap) := s0
      have c0 : (wr.drew).cell? ⟨bn, 0, none⟩ = some (.int .i64 C) := c0
      obtain ⟨fn, tmps, assign, body, hy, hR⟩ := hY _ (⟨k, HLT.out⟩ : Fin N) wr.drew (hJd _ _ HJ.out) (by rw [HU.out]; exact HLT.out)
      rw [show encC b off C (⟨k, HLT.out⟩ : Fin N) = #[.slice (some ⟨b, off + kc, none⟩) C C] by unfold encC; rw [show (⟨k, HLT.out⟩ : Fin N).val * C = kc from HK.out]] at hy
      gi_wp2
      refine hR.mono ?_
      rintro e W3 (⟨rfl, hJ3, hk3⟩ | ⟨rfl, hJx3⟩)
      · have HS3 := Aside0.mk (hk3.2.1.trans HS.out)
        have HC3 := Aside0.mk (hk3.2.2.trans HC.out)
        have s3 : W3.cell? ⟨bs, 0, none⟩ = some (.slice (some ⟨b, off, none⟩) len cap) := (blk_cell HS3.out 0).trans rfl
        have c3 : W3.cell? ⟨bn, 0, none⟩ = some (.int .i64 C) := (blk_cell HC3.out 0).trans rfl
        have HJ3 := Aside0.mk hJ3
        clear hy hR hJ3 hk3 s0 c0
        gi_wp2
        go_roundw
        case rel =>
          refine ⟨k + 1, HLT.out, ?_, ?_, HS3.out, HC3.out⟩
          · rw [Nat.add_mul, Nat.one_mul, HK.out]; simp
          · rw [upC_succ HLT.out]; exact HJ3.out
        case measure => simp [intOf]; omega
      · have HJx3 := Aside0.mk hJx3
        clear hy hR hJx3 s0 c0
        gi_wp2
        refine bodyPost_ret (results_none rfl _ _ _) rfl ?_
        exact ⟨⟨_, rfl⟩, .inr ⟨_, trivial, HJx3.out⟩⟩
    · have hkN : k = N := by omega
      subst hkN
      have hkl : k * C = len := HL.out.symm
      rw [hkl]
      clear hkl hlt hk
      gi_wp2
      go_end0
      exact ⟨⟨_, rfl⟩, .inl ⟨_, rfl, by rw [← upC_all]; exact HJ.out⟩⟩
theorem belowC_b {n₀ bs bn : Nat} {w : World} (hn : n₀ ≤ w.heap.size) (h1 : bs < w.heap.size) (h2 : bn < w.heap.size) (W : World) (l : Nat) (o o' : Obj) (hl : w.heap.size ≤ l) (h : W.heap[l]? = some o) (k1 : o.isCells = false) (k2 : o.isWalk = false) : KpC n₀ bs bn W (W.putObj l o') :=
  ⟨belowK_b hn W l o o' hl h k1 k2, World.putObj_heap_other (by omega), World.putObj_heap_other (by omega)⟩
theorem chunk_stops (F : Fence) (n : Nat) (hf : F.fn 55) (hro : F.round = none) (hn : 1 ≤ n) (bs bn n₀ b off len cap N C : Nat) (hC : 1 ≤ C) (hlen : len = N * C) (hcap : len ≤ cap) (hbig : len ≤ 1000) (w : World) (hbs : w.heap[bs]? = some (.cells #[.slice (some ⟨b, off, none⟩) len cap] 22 (0, 0))) (hbn : w.heap[bn]? = some (.cells #[.int .i64 C] 3 (0, 0))) :
    SeqStopsK F n Tryd.prog 55 #[.pointer (some ⟨bs, 0, none⟩), .pointer (some ⟨bn, 0, none⟩)] (encC b off C (N := N)) (KpC n₀ bs bn) (fun ys => ys = List.finRange N) (fun _ => True) N w := fun l J Jx W hW hJ _ hY h0 =>
  chunk1_in F n hf hro hn l bs bn n₀ b off len cap N C hC hlen hcap hbig J Jx hY W
    (fun s A h => hJ s A A.drew none h ⟨rfl, rfl, rfl, Nat.le_refl _, fun _ _ _ => rfl⟩ (fun r e => by cases e))
    (blk_below hbs hW) (blk_below hbn hW) h0
end Go.Proofs.YtmfocekebenniaaDoor.Given
