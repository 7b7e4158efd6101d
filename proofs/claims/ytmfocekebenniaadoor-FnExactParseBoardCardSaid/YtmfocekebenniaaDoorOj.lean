/- strings.Split at a separator of one byte, by the kit's core of genSplit; for all texts shorter than 4294967281 bytes. -/
import Derived.Test.YtmfocekebenniaaDoorOv
import Derived.Test.YtmfocekebenniaaDoorQx0
import Derived.Lib.Walk
import Derived.Outline
import Derived.Lib.IndexBytes
import Derived.Lib.SplitLaws
namespace Go.Proofs.YtmfocekebenniaaDoor.Given
open Go.Proofs.YtmfocekebenniaaDoor.Q Go.RowKit Go.Shelf Go.Proofs.YtmfocekebenniaaDoorW.PrintWords Go.Proofs.YtmfocekebenniaaDoorW.PrintLast Go.Proofs.YtmfocekebenniaaDoorW.PrintMore
set_option linter.unusedVariables false
set_option linter.unusedSimpArgs false
def strings_Split.f (a0 a1 : ByteArray) : Option (List ByteArray) := if a1.size = 1 ∧ a0.size < 4294967281 then some (Lib.splitB a1 0 (Lib.countB a0 a1) a0) else none
theorem infoStr2 : (Tryd.prog.info? 9).map (fun i => (i.zero, i.size, i.bytes)) = some (some (.string ByteArray.empty), 1, 16) := by kernel_rfl
theorem index_call (x : ByteArray) (c : UInt8) (w : World) : Calls Tryd.prog 53 #[.string x, .string ⟨#[c]⟩] w fun e w' => e = .returned (.int .i64 (Lib.indexB x ⟨#[c]⟩)) ∧ w' = w := by
  refine (Tryd.strings_Index_one x c w).mono ?_
  rintro e w' ⟨rfl, rfl⟩
  exact ⟨by rw [show Lib.indexB x ⟨#[c]⟩ = Lib.indexByte x.data.toList c from Lib.index_one x.data.toList c], rfl⟩
theorem count_call (x : ByteArray) (c : UInt8) (w : World) : Calls Tryd.prog 52 #[.string x, .string ⟨#[c]⟩] w fun e w' => e = .returned (.int .i64 (Lib.countB x ⟨#[c]⟩)) ∧ w' = w := by
  refine (Tryd.strings_Count_one x c w).mono ?_
  rintro e w' ⟨rfl, rfl⟩
  refine ⟨?_, rfl⟩
  show _ = Ending.returned (Value.int .i64 ((Lib.count x.data.toList [c] : Nat) : Int))
  rw [Lib.count_one]
  rfl
theorem genSplit_call (s : ByteArray) (c : UInt8) (w : World) (hs : s.size < 4294967281) :
    Calls Tryd.prog 32 #[.string s, .string ⟨#[c]⟩, .int .i64 0, .int .i64 (-1)] w fun e w' => e = .returned (.slice (some ⟨w.heap.size, 0, none⟩) (Lib.countB s ⟨#[c]⟩ + 1) (Lib.countB s ⟨#[c]⟩ + 1)) ∧ w' = w.alloc (.cells ((Lib.splitB ⟨#[c]⟩ 0 (Lib.countB s ⟨#[c]⟩) s).map Value.string).toArray 9) := by
  have h1 : 1 ≤ (⟨#[c]⟩ : ByteArray).size := Nat.le_refl 1
  have hle := Lib.countB_le ⟨#[c]⟩ h1 s.size s (Nat.le_refl _)
  have hlen := Lib.splitB_all ⟨#[c]⟩ h1 0 _ s rfl
  have g := Any.strings_genSplit_core Tryd.lays221 infoStr2 s ⟨#[c]⟩ 0 (-1) (Lib.countB s ⟨#[c]⟩ + 1) w hs h1 (Nat.zero_le _) (fun x cc hx => index_call x c _) (count_call s c w) (by decide) (by decide) (by rw [if_pos (by decide)]; omega)
  rw [Nat.add_sub_cancel, hlen] at g
  have e2 : Lib.cellsOf (Lib.splitB ⟨#[c]⟩ 0 (Lib.countB s ⟨#[c]⟩) s) (Lib.countB s ⟨#[c]⟩ + 1) = ((Lib.splitB ⟨#[c]⟩ 0 (Lib.countB s ⟨#[c]⟩) s).map Value.string).toArray := by rw [← hlen]; exact Lib.cellsOf_full _
  rw [e2] at g
  exact g
theorem row_new (w : World) (xs : List ByteArray) (hn : xs.length ≤ maxLen) : Kd.R Kd.string 9 (w.alloc (.cells (xs.map Value.string).toArray 9)) w.heap.size (fun _ => True) (.slice (some ⟨w.heap.size, 0, none⟩) xs.length xs.length) xs := by
  have h2 := World.ownsRow_lit (base := w.heap.size) (e := 9) (size := 1) w (xs.map Value.string).toArray xs.length (Nat.le_refl _) hn (by simp)
  exact Kd.R_of_own h2 (fun _ _ => trivial)
set_option maxHeartbeats 1000000 in
theorem strings_Split.calls (a0 a1 : ByteArray) (r : List ByteArray) (w : World) (h : strings_Split.f a0 a1 = some r) :
    Calls Tryd.prog 17 #[.string a0, .string a1] w fun e w' => ∃ v0_ : Value, e = .returned v0_ ∧ Kd.R Kd.string 9 w' w.heap.size (fun _ => True) v0_ r ∧ Below w.heap.size w w' := by
  unfold strings_Split.f at h
  split at h
  case isFalse => cases h
  rename_i hcond
  obtain ⟨k1, k2⟩ := hcond
  obtain ⟨c, rfl⟩ := Lib.one_byte a1 k1
  injection h with h
  have hlen := Lib.splitB_all ⟨#[c]⟩ (Nat.le_refl 1) 0 _ a0 rfl
  have hle := Lib.countB_le ⟨#[c]⟩ (Nat.le_refl 1) a0.size a0 (Nat.le_refl _)
  have HG := Aside0.mk (genSplit_call a0 c w k2)
  rw [h] at hlen HG
  have HN := Aside0.mk (row_new w r (by rw [hlen]; unfold maxLen; omega))
  rw [← hlen] at HG
  clear h hlen hle k1
  go_enter Tryd.func17, Tryd.ntmps17
  go_wp2_with (go_at_call 32; refine HG.out.mono ?_; rintro e w' ⟨rfl, rfl⟩)
  go_ret
  exact ⟨_, rfl, HN.out, below_alloc (Below.refl _ _) _⟩
end Go.Proofs.YtmfocekebenniaaDoor.Given
