/- What the rows' 'laid' gives of the library's variables. -/
import Derived.Test.YtknnflobpjppfaaDoorIdx
import Derived.Test.YtknnflobpjppfaaDoorLaid
import Derived.Stop.LaidErr
import Derived.Lib.LaidTab
set_option linter.all false
namespace Go.Proofs.YtknnflobpjppfaaDoor
open Go.RowKit

theorem gES : Tryd.prog.globalNamed "strconv.ErrSyntax" = some 3 := by kernel_rfl
theorem gER : Tryd.prog.globalNamed "strconv.ErrRange" = some 4 := by kernel_rfl
theorem gP10 : Tryd.prog.globalNamed "internal/strconv.uint64pow10" = some 5 := by kernel_rfl
theorem gEST : (Tryd.prog.globals[3]?).map (·.type) = some 78 := by kernel_rfl
theorem gERT : (Tryd.prog.globals[4]?).map (·.type) = some 78 := by kernel_rfl
theorem gP10T : (Tryd.prog.globals[5]?).map (·.type) = some 157 := by kernel_rfl
theorem cellsES : Tryd.prog.cellsOf 155 = 1 := by kernel_rfl
theorem cellsStr1 : Tryd.prog.cellsOf 9 = 1 := by kernel_rfl
theorem cellsU64 : Tryd.prog.cellsOf 124 = 1 := by kernel_rfl
theorem cellsP10 : Tryd.prog.cellsOf 157 = 20 := by kernel_rfl
theorem starES : "*" ++ "errors.errorString" = "*errors.errorString" := by decide
theorem rowES (u : TypeId) (h : Tryd.prog.typeName? 3 u = some "*errors.errorString") : u = 153 :=
  typeName_ptr_named (nm := "errors.errorString") (by rw [starES]; kernel_rfl) (by kernel_rfl) (by decide) u (by rw [starES]; exact h)
theorem libAt_of {W : World} (hsh : W.ShapedOpen Tryd.prog) (hL0 : laidMetH Tryd.prog Rows.pointAddsUptoRow.laid W) : LibAt W := by
  have hL : laidMet Tryd.prog Rows.pointAddsUptoRow.laid W := hL0
  obtain ⟨m, hm⟩ := Tryd.laysM146.s1_3 W hsh
  obtain ⟨a1, s1, hv1, -, -, -⟩ := laid_sentinel hL.tail.tail.tail.tail gER gERT Tryd.underlying78 rowES Tryd.underlying153 Tryd.underlying155 rfl rfl Tryd.underlying9 cellsES cellsStr1
  obtain ⟨a0, s0, hv0, -, -, -⟩ := laid_sentinel hL.tail.tail.tail.tail.tail gES gEST Tryd.underlying78 rowES Tryd.underlying153 Tryd.underlying155 rfl rfl Tryd.underlying9 cellsES cellsStr1
  refine ⟨⟨m, hm⟩, ⟨_, by have h0 := World.var?_cell gES hv0 0; simpa using h0, .inr ⟨_, _, rfl⟩⟩, ⟨_, by have h0 := World.var?_cell gER hv1 0; simpa using h0, .inr ⟨_, _, rfl⟩⟩, ?_⟩
  exact Lib.tabIs_of_head gP10 gP10T Tryd.underlying157 Tryd.underlying124 cellsU64 cellsP10 hL.tail.tail
end Go.Proofs.YtknnflobpjppfaaDoor
