/- Facts on the types that the functions use, each by computation. -/
import Derived.Test.YtlkeingbjhhfeaaDoorAbB
import Derived.Test.YtlkeingbjhhfeaaDoorProg
import Derived.KernelRfl
namespace Go.Proofs.YtlkeingbjhhfeaaDoor
open Go Go.Ab
set_option maxRecDepth 100000
theorem szO_3 : szO Tryd.prog 3 = some 1 := by kernel_rfl
theorem agg_3 : isAggT Tryd.prog 3 = some false := by kernel_rfl
theorem zero_3 : zeroO Tryd.prog 3 = some (.int .i64 0) := by kernel_rfl
theorem elem_3 : elemT Tryd.prog 3 = none := by kernel_rfl
theorem und_3 : Tryd.prog.underlying 3 = some (.int .i64) := by kernel_rfl
theorem by_3 : bytesO Tryd.prog 3 = some 8 := by kernel_rfl
theorem szO_4 : szO Tryd.prog 4 = some 1 := by kernel_rfl
theorem agg_4 : isAggT Tryd.prog 4 = some false := by kernel_rfl
theorem zero_4 : zeroO Tryd.prog 4 = some (.bool false) := by kernel_rfl
theorem elem_4 : elemT Tryd.prog 4 = none := by kernel_rfl
theorem und_4 : Tryd.prog.underlying 4 = some (.bool) := by kernel_rfl
theorem by_4 : bytesO Tryd.prog 4 = some 1 := by kernel_rfl
theorem szO_5 : szO Tryd.prog 5 = some 1 := by kernel_rfl
theorem agg_5 : isAggT Tryd.prog 5 = some false := by kernel_rfl
theorem zero_5 : zeroO Tryd.prog 5 = some (.int .u8 0) := by kernel_rfl
theorem elem_5 : elemT Tryd.prog 5 = none := by kernel_rfl
theorem und_5 : Tryd.prog.underlying 5 = some (.int .u8) := by kernel_rfl
theorem by_5 : bytesO Tryd.prog 5 = some 1 := by kernel_rfl
theorem szO_9 : szO Tryd.prog 9 = some 1 := by kernel_rfl
theorem agg_9 : isAggT Tryd.prog 9 = some false := by kernel_rfl
theorem zero_9 : zeroO Tryd.prog 9 = some (.str []) := by kernel_rfl
theorem elem_9 : elemT Tryd.prog 9 = none := by kernel_rfl
theorem isStr_9 : isStrT Tryd.prog 9 = true := by kernel_rfl
theorem und_9 : Tryd.prog.underlying 9 = some (.string) := by kernel_rfl
theorem by_9 : bytesO Tryd.prog 9 = some 16 := by kernel_rfl
theorem szO_21 : szO Tryd.prog 21 = some 1 := by kernel_rfl
theorem agg_21 : isAggT Tryd.prog 21 = some false := by kernel_rfl
theorem zero_21 : zeroO Tryd.prog 21 = some (.int .i32 0) := by kernel_rfl
theorem elem_21 : elemT Tryd.prog 21 = none := by kernel_rfl
theorem und_21 : Tryd.prog.underlying 21 = some (.int .i32) := by kernel_rfl
theorem by_21 : bytesO Tryd.prog 21 = some 4 := by kernel_rfl
theorem szO_22 : szO Tryd.prog 22 = some 1 := by kernel_rfl
theorem agg_22 : isAggT Tryd.prog 22 = some false := by kernel_rfl
theorem zero_22 : zeroO Tryd.prog 22 = some .nil := by kernel_rfl
theorem elem_22 : elemT Tryd.prog 22 = some 9 := by kernel_rfl
theorem und_22 : Tryd.prog.underlying 22 = some (.slice 9) := by kernel_rfl
theorem by_22 : bytesO Tryd.prog 22 = some 24 := by kernel_rfl
theorem eok_9 : elemOk Tryd.prog 9 = some (1, 16) := by kernel_rfl
theorem szO_34 : szO Tryd.prog 34 = some 1 := by kernel_rfl
theorem agg_34 : isAggT Tryd.prog 34 = some false := by kernel_rfl
theorem zero_34 : zeroO Tryd.prog 34 = some .nilf := by kernel_rfl
theorem elem_34 : elemT Tryd.prog 34 = none := by kernel_rfl
theorem by_34 : bytesO Tryd.prog 34 = some 8 := by kernel_rfl
theorem szO_39 : szO Tryd.prog 39 = some 1 := by kernel_rfl
theorem agg_39 : isAggT Tryd.prog 39 = some false := by kernel_rfl
theorem zero_39 : zeroO Tryd.prog 39 = some .nilp := by kernel_rfl
theorem elem_39 : elemT Tryd.prog 39 = none := by kernel_rfl
theorem und_39 : Tryd.prog.underlying 39 = some (.pointer 42) := by kernel_rfl
theorem by_39 : bytesO Tryd.prog 39 = some 8 := by kernel_rfl
theorem szO_40 : szO Tryd.prog 40 = some 1 := by kernel_rfl
theorem agg_40 : isAggT Tryd.prog 40 = some false := by kernel_rfl
theorem zero_40 : zeroO Tryd.prog 40 = some .nil := by kernel_rfl
theorem elem_40 : elemT Tryd.prog 40 = some 5 := by kernel_rfl
theorem und_40 : Tryd.prog.underlying 40 = some (.slice 5) := by kernel_rfl
theorem by_40 : bytesO Tryd.prog 40 = some 24 := by kernel_rfl
theorem eok_5 : elemOk Tryd.prog 5 = some (1, 1) := by kernel_rfl
theorem szO_53 : szO Tryd.prog 53 = some 256 := by kernel_rfl
theorem agg_53 : isAggT Tryd.prog 53 = some true := by kernel_rfl
theorem zero_53 : zeroO Tryd.prog 53 = some (.agg [(.bool false), (.bool false), (.bool false), (.bool false), (.bool false), (.bool false), (.bool false), (.bool false), (.bool false), (.bool false), (.bool false), (.bool false), (.bool false), (.bool false), (.bool false), (.bool false), (.bool false), (.bool false), (.bool false), (.bool false), (.bool false), (.bool false), (.bool false), (.bool false), (.bool false), (.bool false), (.bool false), (.bool false), (.bool false), (.bool false), (.bool false), (.bool false), (.bool false), (.bool false), (.bool false), (.bool false), (.bool false), (.bool false), (.bool false), (.bool false), (.bool false), (.bool false), (.bool false), (.bool false), (.bool false), (.bool false), (.bool false), (.bool false), (.bool false), (.bool false), (.bool false), (.bool false), (.bool false), (.bool false), (.bool false), (.bool false), (.bool false), (.bool false), (.bool false), (.bool false), (.bool false), (.bool false), (.bool false), (.bool false), (.bool false), (.bool false), (.bool false), (.bool false), (.bool false), (.bool false), (.bool false), (.bool false), (.bool false), (.bool false), (.bool false), (.bool false), (.bool false), (.bool false), (.bool false), (.bool false), (.bool false), (.bool false), (.bool false), (.bool false), (.bool false), (.bool false), (.bool false), (.bool false), (.bool false), (.bool false), (.bool false), (.bool false), (.bool false), (.bool false), (.bool false), (.bool false), (.bool false), (.bool false), (.bool false), (.bool false), (.bool false), (.bool false), (.bool false), (.bool false), (.bool false), (.bool false), (.bool false), (.bool false), (.bool false), (.bool false), (.bool false), (.bool false), (.bool false), (.bool false), (.bool false), (.bool false), (.bool false), (.bool false), (.bool false), (.bool false), (.bool false), (.bool false), (.bool false), (.bool false), (.bool false), (.bool false), (.bool false), (.bool false), (.bool false), (.bool false), (.bool false), (.bool false), (.bool false), (.bool false), (.bool false), (.bool false), (.bool false), (.bool false), (.bool false), (.bool false), (.bool false), (.bool false), (.bool false), (.bool false), (.bool false), (.bool false), (.bool false), (.bool false), (.bool false), (.bool false), (.bool false), (.bool false), (.bool false), (.bool false), (.bool false), (.bool false), (.bool false), (.bool false), (.bool false), (.bool false), (.bool false), (.bool false), (.bool false), (.bool false), (.bool false), (.bool false), (.bool false), (.bool false), (.bool false), (.bool false), (.bool false), (.bool false), (.bool false), (.bool false), (.bool false), (.bool false), (.bool false), (.bool false), (.bool false), (.bool false), (.bool false), (.bool false), (.bool false), (.bool false), (.bool false), (.bool false), (.bool false), (.bool false), (.bool false), (.bool false), (.bool false), (.bool false), (.bool false), (.bool false), (.bool false), (.bool false), (.bool false), (.bool false), (.bool false), (.bool false), (.bool false), (.bool false), (.bool false), (.bool false), (.bool false), (.bool false), (.bool false), (.bool false), (.bool false), (.bool false), (.bool false), (.bool false), (.bool false), (.bool false), (.bool false), (.bool false), (.bool false), (.bool false), (.bool false), (.bool false), (.bool false), (.bool false), (.bool false), (.bool false), (.bool false), (.bool false), (.bool false), (.bool false), (.bool false), (.bool false), (.bool false), (.bool false), (.bool false), (.bool false), (.bool false), (.bool false), (.bool false), (.bool false), (.bool false), (.bool false), (.bool false), (.bool false), (.bool false), (.bool false), (.bool false), (.bool false), (.bool false), (.bool false), (.bool false), (.bool false), (.bool false), (.bool false), (.bool false), (.bool false), (.bool false), (.bool false)]) := by kernel_rfl
theorem elem_53 : elemT Tryd.prog 53 = none := by kernel_rfl
theorem by_53 : bytesO Tryd.prog 53 = some 256 := by kernel_rfl
theorem szO_57 : szO Tryd.prog 57 = some 1 := by kernel_rfl
theorem agg_57 : isAggT Tryd.prog 57 = some false := by kernel_rfl
theorem zero_57 : zeroO Tryd.prog 57 = some .nilp := by kernel_rfl
theorem elem_57 : elemT Tryd.prog 57 = none := by kernel_rfl
theorem und_57 : Tryd.prog.underlying 57 = some (.pointer 53) := by kernel_rfl
theorem by_57 : bytesO Tryd.prog 57 = some 8 := by kernel_rfl
theorem szO_64 : szO Tryd.prog 64 = some 1 := by kernel_rfl
theorem agg_64 : isAggT Tryd.prog 64 = some false := by kernel_rfl
theorem zero_64 : zeroO Tryd.prog 64 = some .nilp := by kernel_rfl
theorem elem_64 : elemT Tryd.prog 64 = none := by kernel_rfl
theorem und_64 : Tryd.prog.underlying 64 = some (.pointer 5) := by kernel_rfl
theorem by_64 : bytesO Tryd.prog 64 = some 8 := by kernel_rfl
theorem szO_69 : szO Tryd.prog 69 = some 1 := by kernel_rfl
theorem agg_69 : isAggT Tryd.prog 69 = some false := by kernel_rfl
theorem zero_69 : zeroO Tryd.prog 69 = some .nilp := by kernel_rfl
theorem elem_69 : elemT Tryd.prog 69 = none := by kernel_rfl
theorem by_69 : bytesO Tryd.prog 69 = some 8 := by kernel_rfl
theorem fld_42_0 : fieldT Tryd.prog 42 0 = some (39, 0) := by kernel_rfl
theorem fld_42_1 : fieldT Tryd.prog 42 1 = some (40, 1) := by kernel_rfl
theorem cv_3_5 : cvKind Tryd.prog 3 5 = .int .u8 := by kernel_rfl
theorem cv_5_21 : cvKind Tryd.prog 5 21 = .int .i32 := by kernel_rfl
theorem cv_21_5 : cvKind Tryd.prog 21 5 = .int .u8 := by kernel_rfl
theorem cv_40_9 : cvKind Tryd.prog 40 9 = .bs := by kernel_rfl
attribute [go_sem] szO_3 agg_3 zero_3 elem_3 und_3 by_3 szO_4 agg_4 zero_4 elem_4 und_4 by_4 szO_5 agg_5 zero_5 elem_5 und_5 by_5 szO_9 agg_9 zero_9 elem_9 isStr_9 und_9 by_9 szO_21 agg_21 zero_21 elem_21 und_21 by_21 szO_22 agg_22 zero_22 elem_22 und_22 by_22 eok_9 szO_34 agg_34 zero_34 elem_34 by_34 szO_39 agg_39 zero_39 elem_39 und_39 by_39 szO_40 agg_40 zero_40 elem_40 und_40 by_40 eok_5 szO_53 agg_53 zero_53 elem_53 by_53 szO_57 agg_57 zero_57 elem_57 und_57 by_57 szO_64 agg_64 zero_64 elem_64 und_64 by_64 szO_69 agg_69 zero_69 elem_69 by_69 fld_42_0 fld_42_1 cv_3_5 cv_5_21 cv_21_5 cv_40_9
end Go.Proofs.YtlkeingbjhhfeaaDoor
