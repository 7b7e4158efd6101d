/- The walk of the law FnExactAreTastes by hand: its argument is rows of numbers, read as they lie. -/
import Derived.Test.YtmdhclpkbopmdaaJa
import Derived.Test.YtmdhclpkbopmdaaGv
import Derived.Test.YtmdhclpkbopmdaaQx1
import Derived.Test.YtmdhclpkbopmdaaQx2
import Derived.Test.YtmdhclpkbopmdaaQx4
import Derived.Lib.Walk
import Derived.Outline
namespace Go.Proofs.Ytmdhclpkbopmdaa.Q
open Go.Proofs.Ytmdhclpkbopmdaa.Given Go.RowKit Go.Proofs.YtmdhclpkbopmdaaW.PrintWords Go.Proofs.YtmdhclpkbopmdaaW.PrintLast Go.Proofs.YtmdhclpkbopmdaaW.PrintMore
set_option linter.unusedVariables false
set_option linter.unusedSimpArgs false

/-- THE ONE PURE STATEMENT: how much the rows are, and that both answer alike. -/
def laws_FnExactAreTastes.Pure : Prop := ∀ (n : Int) (l : List (List Int)), (Lit.int .i64 n).wf = true → l.length ≤ maxLen → (∀ x ∈ l, x.length ≤ maxLen) → (∀ x ∈ l, ∀ y ∈ x, (Lit.int .i64 y).wf = true) → ∃ k left, laws_szIntSS.f k l 1048576 = some left ∧ (0 ≤ left → l.length ≤ 1048576 ∧ (∀ x ∈ l, x.length ≤ 1048576) ∧ ∃ b c, spec_AreTastes.f k n l = some (b, c) ∧ impl_AreTastes.f n l = some (b, c) ∧ laws_eqIntSS.f k l l = some true)

set_option maxHeartbeats 4000000 in
theorem laws_FnExactAreTastes.walk (P : laws_FnExactAreTastes.Pure) (n : Int) (A : Option Addr) (c : Nat) (l : List (List Int)) (w : World) (hn : (Lit.int .i64 n).wf = true) (hr : Kd.C (Kd.slice 3 (Kd.int .i64)) w A l.length l) (hc : l.length ≤ c) (hl : l.length ≤ maxLen) (hx : ∀ x ∈ l, x.length ≤ maxLen) (hw : ∀ x ∈ l, ∀ y ∈ x, (Lit.int .i64 y).wf = true) :
    Calls Try.prog 4 #[.int .i64 n, .slice A l.length c] w fun e w' => e = .returned (.bool true) ∧ Below w.heap.size w w' := by
  obtain ⟨k, left, hsz, hP⟩ := P n l hn hl hx hw
  have HR := Aside0.mk hr
  have HC := Aside0.mk hc
  have HSZ := Aside0.mk hsz
  have HP := Aside0.mk hP
  clear hr hc hsz hP hl hx hw hn P
  go_enter Try.func4, Try.ntmps4
  go_wp2_with fail
  refine (laws_szIntSS.calls k _ _ l 1048576 left _ (by repeat (first | exact HR.out | apply Kd.C_drewN)) HC.out HSZ.out).mono ?_
  rintro e w1 ⟨rfl, ⟨q1, rfl⟩⟩
  by_cases hneg : left < 0
  · go_wp2
    go_ret
    exact ⟨rfl, by repeat (first | exact Below.refl _ _ | apply pw_below_drewN)⟩
  · obtain ⟨h1, h2, b, d, hs, hi, he⟩ := HP.out (by omega)
    have H1 := Aside0.mk h1
    have H2 := Aside0.mk h2
    have HS := Aside0.mk hs
    have HI := Aside0.mk hi
    have HE := Aside0.mk he
    clear h1 h2 hs hi he HP
    go_wp2_with fail
    refine (laws_toIntSS.calls _ _ l _ (by repeat (first | exact HR.out | apply Kd.C_drewN)) HC.out (by have := H1.out; omega) (fun x hx => by have := H2.out x hx; omega)).mono ?_
    rintro e w2 ⟨A2, c2, rfl, hc2, hr2, hb2⟩
    have HC2 := Aside0.mk hc2
    have HR2 := Aside0.mk hr2
    have HB := Aside0.mk (below_step (show Below w.heap.size w _ by repeat (first | exact Below.refl _ _ | apply pw_below_drewN)) hb2)
    clear hc2 hr2 hb2
    go_wp2_with fail
    refine (spec_AreTastes.calls k n _ _ l b d _ (by repeat (first | exact HR2.out | apply Kd.C_drewN)) HC2.out HS.out).mono ?_
    rintro e w3 ⟨rfl, ⟨q3, rfl⟩⟩
    clear HR2 HC2
    go_wp2_with fail
    refine (laws_toIntSS.calls _ _ l _ (by repeat (first | exact Kd.C_below HR.out HB.out | apply Kd.C_drewN)) HC.out (by have := H1.out; omega) (fun x hx => by have := H2.out x hx; omega)).mono ?_
    rintro e w4 ⟨A4, c4, rfl, hc2, hr2, hb2⟩
    have HC2 := Aside0.mk hc2
    have HR2 := Aside0.mk hr2
    have HB := Aside0.mk (below_step (show Below w.heap.size w _ by repeat (first | exact HB.out | apply pw_below_drewN)) hb2)
    clear hc2 hr2 hb2
    go_wp2_with fail
    refine (impl_AreTastes.calls n _ _ l b d _ (by repeat (first | exact HR2.out | apply Kd.C_drewN)) HC2.out HI.out).mono ?_
    rintro e w5 ⟨rfl, hb5⟩
    have b5 := below_step (show Below w4.heap.size w4 _ by repeat (first | exact Below.refl _ _ | apply pw_below_drewN)) hb5
    have HR2 := Aside0.mk (Kd.C_below HR2.out b5)
    have HB := Aside0.mk (below_step HB.out b5)
    clear hb5 b5
    have nb : ∀ x : Bool, (x != x) = false := fun x => by cases x <;> rfl
    have nb1 := nb b
    have nb2 := nb d
    clear nb
    go_wp2_with fail
    refine (laws_toIntSS.calls _ _ l _ (by repeat (first | exact Kd.C_below HR.out HB.out | apply Kd.C_drewN)) HC.out (by have := H1.out; omega) (fun x hx => by have := H2.out x hx; omega)).mono ?_
    rintro e w6 ⟨A3, c3, rfl, hc3, hr3, hb3⟩
    have HC3 := Aside0.mk hc3
    have HR3 := Aside0.mk hr3
    have b6 := below_step (show Below w5.heap.size w5 _ by repeat (first | exact Below.refl _ _ | apply pw_below_drewN)) hb3
    have HR2 := Aside0.mk (Kd.C_below HR2.out b6)
    have HB := Aside0.mk (below_step HB.out b6)
    clear hc3 hr3 hb3 b6
    go_wp2_with fail
    refine (laws_eqIntSS.calls k _ _ l _ _ l true _ (by repeat (first | exact HR2.out | apply Kd.C_drewN)) HC2.out (by repeat (first | exact HR3.out | apply Kd.C_drewN)) HC3.out HE.out).mono ?_
    rintro e w7 ⟨rfl, ⟨q7, rfl⟩⟩
    go_wp2
    go_ret
    exact ⟨rfl, by repeat (first | exact HB.out | apply pw_below_drewN)⟩
end Go.Proofs.Ytmdhclpkbopmdaa.Q
