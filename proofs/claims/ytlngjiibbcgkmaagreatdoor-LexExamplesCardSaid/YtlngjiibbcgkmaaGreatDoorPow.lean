/- The library's table of powers of ten, out of the row's list. -/
import Derived.Test.YtlngjiibbcgkmaaGreatDoorAddrW3
import Derived.LaidSub
namespace Go.Proofs.YtlngjiibbcgkmaaGreatDoor
open Go.RowKit

theorem pow_type : (Tryz.prog.globals[4]?).map (·.type) = some 219 := by kernel_rfl
theorem pow_cells : Tryz.prog.cellsOf 219 = 20 := by kernel_rfl
theorem u64_cells : Tryz.prog.cellsOf 126 = 1 := by kernel_rfl
theorem pow_of_one {W : World} (h : laidMet Tryz.prog [("internal/strconv.uint64pow10", Lib.tabData .u64 Lib.pow10Tab)] W) : Pow W :=
  Lib.tabIs_of_head gPow pow_type Tryz.underlying219 Tryz.underlying126 u64_cells pow_cells h
theorem pow_datum : (Rows.laid_internal_strconv_uint64pow10 : DataW Unit) = Lib.tabData .u64 Lib.pow10Tab := by kernel_rfl
theorem pow_of_laid {W : World} {l : List (String × DataW Unit)} (h : laidMetH Tryz.prog l W)
    (hl : l.filter (fun x => x.1 == "internal/strconv.uint64pow10") = [("internal/strconv.uint64pow10", Rows.laid_internal_strconv_uint64pow10)]) : Pow W := by
  have h2 := h.filter (fun x => x.1 == "internal/strconv.uint64pow10")
  rw [hl, pow_datum] at h2
  exact pow_of_one h2
end Go.Proofs.YtlngjiibbcgkmaaGreatDoor
