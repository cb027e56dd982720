/-
  FROM A ROW's 'laid' TO THE TABLE THAT math/bits.TrailingZeros64 READS. Conditions: none.
-/
import Derived.Test.YtkdlgfjpbcgnnaaDoorCTz
import Derived.Lib.LaidU8
import Derived.Lay
import Derived.MakeChecks
namespace Go.Proofs.YtkdlgfjpbcgnnaaDoor
open Go.RowKit

theorem tab_name : Tryd.prog.globalNamed "math/bits.deBruijn64tab" = some 1 := by kernel_rfl
theorem tab_type : (Tryd.prog.globals[1]?).map (·.type) = some 43 := by kernel_rfl
theorem tab_cells : Tryd.prog.cellsOf 43 = 64 := by kernel_rfl
theorem u8_cells : Tryd.prog.cellsOf 5 = 1 := by kernel_rfl
theorem tab_data : (Rows.laid_math_bits_deBruijn64tab : DataW Unit) = Lib.tabData .u8 dtab := rfl
theorem tab_of {W : World} (h : laidMetH Tryd.prog [("math/bits.deBruijn32tab", Rows.laid_math_bits_deBruijn32tab), ("math/bits.deBruijn64tab", Rows.laid_math_bits_deBruijn64tab)] W) : TabW W := by
  rw [MakeChecks.laidMetH_plain _ _ _ (by kernel_rfl)] at h
  obtain ⟨g, t, cs, fuel, p, hg, hty, hvar, hd⟩ := Lib.laidMet.reads h (.tail _ (.head _))
  obtain rfl := Option.some.inj (tab_name.symm.trans hg)
  obtain rfl := Option.some.inj (tab_type.symm.trans hty)
  rw [tab_data] at hd
  have hcs := Lib.cells_of_tab Tryd.underlying43 Tryd.underlying5 u8_cells tab_cells hd
  intro i hi
  rw [World.var?_cell hg hvar i, ← Array.getElem?_toList, hcs]
  have hl : dtab.length = 64 := rfl
  rw [List.getElem?_map, List.getElem?_eq_getElem (by omega), List.getD_eq_getElem?_getD, List.getElem?_eq_getElem (by omega)]
  rfl
end Go.Proofs.YtkdlgfjpbcgnnaaDoor
