/- strconv's two error variables hold an error each where the listed variables are laid (row FnExactParseLabels). -/
import Derived.Test.YtmfocekebenniaaDoorRows
import Derived.Test.YtmfocekebenniaaDoorOu
import Derived.Stop.LaidErr
import Derived.MakeChecks
namespace Go.Proofs.YtmfocekebenniaaDoor.Given
open Go Go.Proofs.YtmfocekebenniaaDoor.Q Go.RowKit Go.Shelf Go.Proofs.YtmfocekebenniaaDoorW.PrintWords Go.Proofs.YtmfocekebenniaaDoorW.PrintLast Go.Proofs.YtmfocekebenniaaDoorW.PrintMore
theorem gES : Tryd.prog.globalNamed "strconv.ErrSyntax" = some 1 := by kernel_rfl
theorem gER : Tryd.prog.globalNamed "strconv.ErrRange" = some 2 := by kernel_rfl
theorem gESType : (Tryd.prog.globals[1]?).map (·.type) = some 42 := by kernel_rfl
theorem gERType : (Tryd.prog.globals[2]?).map (·.type) = some 42 := by kernel_rfl
theorem esCells : Tryd.prog.cellsOf 99 = 1 := by kernel_rfl
theorem strCells : Tryd.prog.cellsOf 9 = 1 := by kernel_rfl
theorem star_ : "*" ++ "errors.errorString" = "*errors.errorString" := by decide
theorem row_es (u : TypeId) (h : Tryd.prog.typeName? 3 u = some "*errors.errorString") : u = 97 :=
  typeName_ptr_named (nm := "errors.errorString") (by rw [star_]; kernel_rfl) (by kernel_rfl) (by decide) u (by rw [star_]; exact h)
theorem vars_ok {w : World} (h : laidMetH Tryd.prog Rows.fnExactParseLabelsRow.laid w) : Aside0 (VarsOk w) := by
  have hL : laidMet Tryd.prog Rows.fnExactParseLabelsRow.laid w := by
    rw [Go.MakeChecks.laidMetH_plain Tryd.prog Rows.fnExactParseLabelsRow.laid w (by kernel_rfl)] at h
    exact h
  have hR := hL.tail.tail.tail
  obtain ⟨a1, s1, hv1, -, -, -⟩ := laid_sentinel hR gER gERType Tryd.underlying42 row_es Tryd.underlying97 Tryd.underlying99 rfl rfl Tryd.underlying9 esCells strCells
  obtain ⟨a0, s0, hv0, -, -, -⟩ := laid_sentinel hR.tail gES gESType Tryd.underlying42 row_es Tryd.underlying97 Tryd.underlying99 rfl rfl Tryd.underlying9 esCells strCells
  refine Aside0.mk ⟨⟨_, by have h0 := World.var?_cell gES hv0 0; simpa using h0, Or.inr ⟨_, _, rfl⟩⟩, ⟨_, by have h0 := World.var?_cell gER hv1 0; simpa using h0, Or.inr ⟨_, _, rfl⟩⟩⟩
end Go.Proofs.YtmfocekebenniaaDoor.Given
