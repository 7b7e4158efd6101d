/- impl.house.entries by hand (DeleteFunc with a closure over the house); for all slices that read as lists. -/
import Derived.Test.YtcnplmajlanmdaaHa
import Derived.Test.YtcnplmajlanmdaaQx3
import Derived.Lib.Walk
import Derived.Deep.RegionHeld3
import Derived.Shelf.Abstract
import Derived.Outline
namespace Go.Proofs.Ytcnplmajlanmdaa.Given
open Go.Proofs.Ytcnplmajlanmdaa.Q Go.RowKit Go.Proofs.YtcnplmajlanmdaaW.PrintWords Go.Proofs.YtcnplmajlanmdaaW.PrintLast Go.Proofs.YtcnplmajlanmdaaW.PrintMore
set_option linter.unusedVariables false
set_option linter.unusedSimpArgs false

/-- A step of the border with labels at both ends. -/
def stepIn (l x : List Int) : Prop := x.length = 2 ∧ (0 ≤ rd x 0 ∧ rd x 0 < (l.length : Int)) ∧ 0 ≤ rd x 1 ∧ rd x 1 < (l.length : Int)
instance (l x : List Int) : Decidable (stepIn l x) := by unfold stepIn; exact inferInstance
def hdoor (a b : Int) : Bool := !(decide (a = b)) && (decide (a < 2) && decide (b < 2))
/-- What the closure strikes. -/
def dropH (l x : List Int) : Bool := !(hdoor (rd l (rd x 0)) (rd l (rd x 1)))
theorem isDoor_h (a0 : Int) (l : List Int) (cs : List (List Int)) (bd : List Int) (i j : Int) (p0 : 0 ≤ i) (q0 : i < (l.length : Int)) (p1 : 0 ≤ j) (q1 : j < (l.length : Int)) : impl_house_isDoor.f a0 l cs bd i j = some (hdoor (rd l i) (rd l j)) := by
  unfold impl_house_isDoor.f hdoor
  rw [if_pos p0, if_pos q0, if_pos p1, if_pos q1]
  by_cases e : rd l i = rd l j
  · simp [e]
  · by_cases e2 : rd l i < 2
    · simp [e, e2]
    · simp [e, e2]

set_option maxHeartbeats 2000000 in
theorem entries1 (n : Int) (l : List Int) (cs : List (List Int)) (bd x : List Int) (A0 A1 A2 A3 : Option Addr) (c0 c1 c2 c3 B : Nat) (w : World) (hx : Kd.C (Kd.int .i64) w A0 x.length x) (hl : Kd.C (Kd.int .i64) w A1 l.length l) (hc1 : l.length ≤ c1)
    (hcs : Kd.C (Kd.slice 3 (Kd.int .i64)) w A2 cs.length cs) (hc2 : cs.length ≤ c2) (hbd : Kd.C (Kd.int .i64) w A3 bd.length bd) (hc3 : bd.length ≤ c3)
    (hb : w.heap[B]? = some (.cells #[.int .i64 n, .slice A1 l.length c1, .slice A2 cs.length c2, .slice A3 bd.length c3] 45 (0, 0))) (hs : stepIn l x) :
    Calls Try.prog 75 #[.slice A0 x.length c0, .pointer (some ⟨B, 0, none⟩)] w fun e w' => e = .returned (.bool (!(hdoor (rd l (rd x 0)) (rd l (rd x 1))))) ∧ Below w.heap.size w w' := by
  obtain ⟨h2, ⟨p0, q0⟩, p1, q1⟩ := hs
  obtain ⟨ad, e1, x0⟩ := Kd.at_int hx 0 (by omega) (by omega)
  cases e1
  obtain ⟨ad', e1, x1⟩ := Kd.at_int hx 1 (by omega) (by omega)
  cases e1
  simp [Addr.add] at x0 x1
  have hx2 : (0 : Int) < (x.length : Int) := by omega
  have hx3 : (1 : Int) < (x.length : Int) := by omega
  have HD := Aside0.mk (isDoor_h n l cs bd (rd x 0) (rd x 1) p0 q0 p1 q1)
  have hb0 : w.cell? ⟨B, 0, none⟩ = some (.int .i64 n) := blk_cell hb 0
  have hb1 : w.cell? ⟨B, 1, none⟩ = some (.slice A1 l.length c1) := blk_cell hb 1
  have hb2 : w.cell? ⟨B, 2, none⟩ = some (.slice A2 cs.length c2) := blk_cell hb 2
  have hb3 : w.cell? ⟨B, 3, none⟩ = some (.slice A3 bd.length c3) := blk_cell hb 3
  have HX := Aside0.mk hx
  have HL := Aside0.mk hl
  have HCS := Aside0.mk hcs
  have HBD := Aside0.mk hbd
  have C1 := Aside0.mk hc1
  have C2 := Aside0.mk hc2
  have C3 := Aside0.mk hc3
  clear hx hl hcs hbd hc1 hc2 hc3 hb p0 q0 p1 q1
  generalize (hdoor (rd l (rd x 0)) (rd l (rd x 1))) = bb at HD ⊢
  generalize rd x 0 = i0 at x0 HD
  generalize rd x 1 = i1 at x1 HD
  have hu := Try.underlying45
  go_enter Try.func75, Try.ntmps75
  have HSS := Aside0.mk (fun W (hW : Below w.heap.size w W) => And.intro hW (And.intro ((hW.cell (World.block_lt_of_cell? w _ hb0)).trans hb0) (And.intro ((hW.cell (World.block_lt_of_cell? w _ hb1)).trans hb1) (And.intro ((hW.cell (World.block_lt_of_cell? w _ hb2)).trans hb2) (And.intro ((hW.cell (World.block_lt_of_cell? w _ hb3)).trans hb3) (And.intro ((hW.cell (World.block_lt_of_cell? w _ x0)).trans x0) ((hW.cell (World.block_lt_of_cell? w _ x1)).trans x1)))))))
  go_wp2
  go_region_held3 (fun w' => Below w.heap.size w w' ∧ w'.cell? ⟨B, 0, none⟩ = some (.int .i64 n) ∧ w'.cell? ⟨B, 1, none⟩ = some (.slice A1 l.length c1) ∧ w'.cell? ⟨B, 2, none⟩ = some (.slice A2 cs.length c2) ∧ w'.cell? ⟨B, 3, none⟩ = some (.slice A3 bd.length c3) ∧ w'.cell? ad = some (.int .i64 i0) ∧ w'.cell? ⟨ad.block, ad.off + 1, none⟩ = some (.int .i64 i1))
    (first | exact HSS.out _ (below_drew (Below.refl _ _)) | exact HSS.out _ BZ.out)
    ((go_at_call 43; refine (impl_house_isDoor.calls n A1 c1 l A2 c2 cs A3 c3 bd i0 i1 bb _ (Kd.C_below HL.out (below_drew (Below.refl _ _))) C1.out (Kd.C_below HCS.out (below_drew (Below.refl _ _))) C2.out (Kd.C_below HBD.out (below_drew (Below.refl _ _))) C3.out HD.out).mono ?_; rintro e w' ⟨rfl, B2⟩; have BZ := Aside0.mk (below_step (below_drew (Below.refl _ _)) B2)))
  go_wp2
  go_ret
  exact ⟨rfl, BZ.out⟩

def impl_house_entries.f (k : Nat) (a0 : Int) (l1 : List Int) (l2 : List (List Int)) (l3 : List Int) : Option (List (List Int)) := (impl_house_steps.f k a0 l1 l2 l3).bind fun st => if 0 < st.length ∧ ∀ x ∈ st, stepIn l1 x then some (st.filter fun x => !(dropH l1 x)) else none
theorem impl_house_entries.mono : ∀ a0 a1 a2 a3 k, LeO (impl_house_entries.f k a0 a1 a2 a3) (impl_house_entries.f (k + 1) a0 a1 a2 a3) := by
  intro a0 a1 a2 a3 k
  unfold impl_house_entries.f
  exact LeO.bind (impl_house_steps.mono _ _ _ _ _) (fun _ => LeO.refl _)

set_option maxHeartbeats 4000000 in
set_option maxRecDepth 100000 in
theorem impl_house_entries.calls (k : Nat) (a0 : Int) (A1 : Option Addr) (c1 : Nat) (l1 : List Int) (A2 : Option Addr) (c2 : Nat) (l2 : List (List Int)) (A3 : Option Addr) (c3 : Nat) (l3 : List Int) (r : List (List Int)) (w : World)
    (hr1 : Kd.C (Kd.int .i64) w A1 l1.length l1) (hc1 : l1.length ≤ c1) (hr2 : Kd.C (Kd.slice 3 (Kd.int .i64)) w A2 l2.length l2) (hc2 : l2.length ≤ c2) (hr3 : Kd.C (Kd.int .i64) w A3 l3.length l3) (hc3 : l3.length ≤ c3) (h : impl_house_entries.f k a0 l1 l2 l3 = some r) :
    Calls Try.prog 51 #[.agg #[.int .i64 a0, .slice A1 l1.length c1, .slice A2 l2.length c2, .slice A3 l3.length c3]] w fun e w' => ∃ v0_ : Value, e = .returned (v0_) ∧ Kd.S (Kd.slice 3 (Kd.int .i64)) 22 w' w.heap.size (fun _ => True) v0_ r ∧ Below w.heap.size w w' := by
  obtain ⟨st, hst, h⟩ := Option.bind_eq_some_iff.mp h
  by_cases hx : 0 < st.length ∧ ∀ x ∈ st, stepIn l1 x
  case neg => rw [if_neg hx] at h; cases h
  rw [if_pos hx] at h
  obtain rfl := Option.some.inj h
  obtain ⟨hx0, hx1⟩ := hx
  have hu := Try.underlying45
  obtain ⟨w1, hw1⟩ : ∃ w1, w1 = (w.alloc (.cells #[.int .i64 a0, .slice A1 l1.length c1, .slice A2 l2.length c2, .slice A3 l3.length c3] 45)) := ⟨_, rfl⟩
  have HST := Aside0.mk hst
  have HX0 := Aside0.mk hx0
  have HX1 := Aside0.mk hx1
  have BX := Aside0.mk (show Below w.heap.size w w1 from hw1 ▸ below_alloc (Below.refl w.heap.size w) _)
  have HL1 := Aside0.mk (Kd.C_below hr1 BX.out)
  have HL2 := Aside0.mk (Kd.C_below hr2 BX.out)
  have HL3 := Aside0.mk (Kd.C_below hr3 BX.out)
  have HC1 := Aside0.mk hc1
  have HC2 := Aside0.mk hc2
  have HC3 := Aside0.mk hc3
  have hbk : w1.heap[w.heap.size]? = some (.cells #[.int .i64 a0, .slice A1 l1.length c1, .slice A2 l2.length c2, .slice A3 l3.length c3] 45 (0, 0)) := by rw [hw1]; exact heap_alloc_new w _
  have CX := Aside0.mk hbk
  have HW1 := Aside0.mk hw1
  clear hst hx0 hx1 hr1 hc1 hr2 hc2 hr3 hc3 h hw1 hbk
  generalize hfr : (st.filter fun x => !(dropH l1 x)) = r
  have HFR := Aside0.mk hfr
  clear hfr
  go_enter Try.func51, Try.ntmps51
  go_wp2_with fail
  rw [← HW1.out]
  refine (impl_house_steps.calls k a0 A1 c1 l1 A2 c2 l2 A3 c3 l3 st _ HL1.out HC1.out HL2.out HC2.out HL3.out HC3.out HST.out).mono ?_
  rintro e w2 ⟨v, rfl, RS, B2⟩
  have RS := Aside0.mk RS
  have B2 := Aside0.mk B2
  have HDF := Aside0.mk (DeleteFunc_SB (dropH l1) 75 #[.pointer (some ⟨w.heap.size, 0, none⟩)] (enters_of Try.func75 (by kernel_rfl) rfl) RS.out HX0.out (fun x hx A0 c0 W' hB hC hc => by
    have B3 := B2.out.trans hB
    exact entries1 a0 l1 l2 l3 x A0 A1 A2 A3 c0 c1 c2 c3 w.heap.size W' hC (Kd.C_below HL1.out B3) HC1.out (Kd.C_below HL2.out B3) HC2.out (Kd.C_below HL3.out B3) HC3.out ((B3.block _ (blk_lt CX.out)).trans CX.out) (HX1.out x hx)))
  go_wp2_with fail
  refine HDF.out.mono ?_
  rintro e w3 ⟨v', rfl, RS', B3⟩
  have RS' := Aside0.mk RS'
  have B3 := Aside0.mk (below_step BX.out (B2.out.trans B3))
  go_wp2
  go_ret
  exact ⟨_, rfl, by rw [← HFR.out]; exact Kd.S_lower RS'.out BX.out.size, B3.out⟩
end Go.Proofs.Ytcnplmajlanmdaa.Given
