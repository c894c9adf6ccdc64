/- What the rows' 'laid' gives of the library's variables. -/
import Derived.Test.YtjibdbnpkfghhaaGreatDoorIdx
import Derived.Test.YtjibdbnpkfghhaaGreatDoorPkL
import Derived.Stop.LaidErr
import Derived.Lib.LaidTab
set_option linter.all false
namespace Go.Proofs.YtjibdbnpkfghhaaGreatDoor
open Go.RowKit
theorem gES : Tryz.prog.globalNamed "strconv.ErrSyntax" = some 3 := by kernel_rfl
theorem gER : Tryz.prog.globalNamed "strconv.ErrRange" = some 4 := by kernel_rfl
theorem gP10 : Tryz.prog.globalNamed "internal/strconv.uint64pow10" = some 5 := by kernel_rfl
theorem gEST : (Tryz.prog.globals[3]?).map (·.type) = some 131 := by kernel_rfl
theorem gERT : (Tryz.prog.globals[4]?).map (·.type) = some 131 := by kernel_rfl
theorem gP10T : (Tryz.prog.globals[5]?).map (·.type) = some 220 := by kernel_rfl
theorem cellsES : Tryz.prog.cellsOf 218 = 1 := by kernel_rfl
theorem cellsStr1 : Tryz.prog.cellsOf 9 = 1 := by kernel_rfl
theorem cellsU64 : Tryz.prog.cellsOf 160 = 1 := by kernel_rfl
theorem cellsP10 : Tryz.prog.cellsOf 220 = 20 := by kernel_rfl
theorem starES : "*" ++ "errors.errorString" = "*errors.errorString" := by decide
theorem rowES (u : TypeId) (h : Tryz.prog.typeName? 3 u = some "*errors.errorString") : u = 216 :=
 typeName_ptr_named (nm := "errors.errorString") (by rw [starES]; kernel_rfl) (by kernel_rfl) (by decide) u (by rw [starES]; exact h)
theorem libAt_of {W : World} (hsh : W.ShapedOpen Tryz.prog) (hL0 : laidMetH Tryz.prog Rows.jsonParsesUptoRow.laid W) : LibAt W := by
 have hL : laidMet Tryz.prog Rows.jsonParsesUptoRow.laid W := hL0
 obtain ⟨m, hm⟩ := Tryz.laysM146.s1_3 W hsh
 obtain ⟨a1, s1, hv1, -, -, -⟩ := laid_sentinel hL.tail.tail.tail.tail gER gERT Tryz.underlying131 rowES Tryz.underlying216 Tryz.underlying218 rfl rfl Tryz.underlying9 cellsES cellsStr1
 obtain ⟨a0, s0, hv0, -, -, -⟩ := laid_sentinel hL.tail.tail.tail.tail.tail gES gEST Tryz.underlying131 rowES Tryz.underlying216 Tryz.underlying218 rfl rfl Tryz.underlying9 cellsES cellsStr1
 refine ⟨⟨m, hm⟩, ⟨_, by have h0 := World.var?_cell gES hv0 0; simpa using h0, .inr ⟨_, _, rfl⟩⟩, ⟨_, by have h0 := World.var?_cell gER hv1 0; simpa using h0, .inr ⟨_, _, rfl⟩⟩, ?_⟩
 exact Lib.tabIs_of_head gP10 gP10T Tryz.underlying220 Tryz.underlying160 cellsU64 cellsP10 hL.tail.tail
end Go.Proofs.YtjibdbnpkfghhaaGreatDoor
