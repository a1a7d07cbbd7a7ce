/- Facts on the types that the functions use, each by computation. -/
import Derived.Test.YtmgggjaphphkhaaDoorAbB
import Derived.Test.YtmgggjaphphkhaaDoorProg
import Derived.KernelRfl
namespace Go.Proofs.YtmgggjaphphkhaaDoor
open Go Go.Ab
set_option maxRecDepth 100000
theorem szO_3 : szO Tryd.prog 3 = some 1 := by kernel_rfl
theorem agg_3 : isAggT Tryd.prog 3 = some false := by kernel_rfl
theorem zero_3 : zeroO Tryd.prog 3 = some (.int .i64 0) := by kernel_rfl
theorem elem_3 : elemT Tryd.prog 3 = none := by kernel_rfl
theorem und_3 : Tryd.prog.underlying 3 = some (.int .i64) := by kernel_rfl
theorem by_3 : bytesO Tryd.prog 3 = some 8 := by kernel_rfl
theorem szO_4 : szO Tryd.prog 4 = some 1 := by kernel_rfl
theorem agg_4 : isAggT Tryd.prog 4 = some false := by kernel_rfl
theorem zero_4 : zeroO Tryd.prog 4 = some (.bool false) := by kernel_rfl
theorem elem_4 : elemT Tryd.prog 4 = none := by kernel_rfl
theorem und_4 : Tryd.prog.underlying 4 = some (.bool) := by kernel_rfl
theorem by_4 : bytesO Tryd.prog 4 = some 1 := by kernel_rfl
theorem szO_5 : szO Tryd.prog 5 = some 1 := by kernel_rfl
theorem agg_5 : isAggT Tryd.prog 5 = some false := by kernel_rfl
theorem zero_5 : zeroO Tryd.prog 5 = some (.int .u8 0) := by kernel_rfl
theorem elem_5 : elemT Tryd.prog 5 = none := by kernel_rfl
theorem und_5 : Tryd.prog.underlying 5 = some (.int .u8) := by kernel_rfl
theorem by_5 : bytesO Tryd.prog 5 = some 1 := by kernel_rfl
theorem szO_9 : szO Tryd.prog 9 = some 1 := by kernel_rfl
theorem agg_9 : isAggT Tryd.prog 9 = some false := by kernel_rfl
theorem zero_9 : zeroO Tryd.prog 9 = some (.str []) := by kernel_rfl
theorem elem_9 : elemT Tryd.prog 9 = none := by kernel_rfl
theorem isStr_9 : isStrT Tryd.prog 9 = true := by kernel_rfl
theorem und_9 : Tryd.prog.underlying 9 = some (.string) := by kernel_rfl
theorem by_9 : bytesO Tryd.prog 9 = some 16 := by kernel_rfl
theorem szO_21 : szO Tryd.prog 21 = some 1 := by kernel_rfl
theorem agg_21 : isAggT Tryd.prog 21 = some false := by kernel_rfl
theorem zero_21 : zeroO Tryd.prog 21 = some (.int .i32 0) := by kernel_rfl
theorem elem_21 : elemT Tryd.prog 21 = none := by kernel_rfl
theorem und_21 : Tryd.prog.underlying 21 = some (.int .i32) := by kernel_rfl
theorem by_21 : bytesO Tryd.prog 21 = some 4 := by kernel_rfl
theorem szO_22 : szO Tryd.prog 22 = some 1 := by kernel_rfl
theorem agg_22 : isAggT Tryd.prog 22 = some false := by kernel_rfl
theorem zero_22 : zeroO Tryd.prog 22 = some .nil := by kernel_rfl
theorem elem_22 : elemT Tryd.prog 22 = some 9 := by kernel_rfl
theorem und_22 : Tryd.prog.underlying 22 = some (.slice 9) := by kernel_rfl
theorem by_22 : bytesO Tryd.prog 22 = some 24 := by kernel_rfl
theorem eok_9 : elemOk Tryd.prog 9 = some (1, 16) := by kernel_rfl
theorem szO_27 : szO Tryd.prog 27 = some 1 := by kernel_rfl
theorem agg_27 : isAggT Tryd.prog 27 = some false := by kernel_rfl
theorem zero_27 : zeroO Tryd.prog 27 = some .nil := by kernel_rfl
theorem elem_27 : elemT Tryd.prog 27 = some 3 := by kernel_rfl
theorem und_27 : Tryd.prog.underlying 27 = some (.slice 3) := by kernel_rfl
theorem by_27 : bytesO Tryd.prog 27 = some 24 := by kernel_rfl
theorem eok_3 : elemOk Tryd.prog 3 = some (1, 8) := by kernel_rfl
theorem szO_36 : szO Tryd.prog 36 = some 1 := by kernel_rfl
theorem agg_36 : isAggT Tryd.prog 36 = some false := by kernel_rfl
theorem zero_36 : zeroO Tryd.prog 36 = some .nilf := by kernel_rfl
theorem elem_36 : elemT Tryd.prog 36 = none := by kernel_rfl
theorem by_36 : bytesO Tryd.prog 36 = some 8 := by kernel_rfl
theorem szO_38 : szO Tryd.prog 38 = some 1 := by kernel_rfl
theorem agg_38 : isAggT Tryd.prog 38 = some false := by kernel_rfl
theorem zero_38 : zeroO Tryd.prog 38 = some .nilp := by kernel_rfl
theorem elem_38 : elemT Tryd.prog 38 = none := by kernel_rfl
theorem und_38 : Tryd.prog.underlying 38 = some (.pointer 41) := by kernel_rfl
theorem by_38 : bytesO Tryd.prog 38 = some 8 := by kernel_rfl
theorem szO_39 : szO Tryd.prog 39 = some 1 := by kernel_rfl
theorem agg_39 : isAggT Tryd.prog 39 = some false := by kernel_rfl
theorem zero_39 : zeroO Tryd.prog 39 = some .nil := by kernel_rfl
theorem elem_39 : elemT Tryd.prog 39 = some 5 := by kernel_rfl
theorem und_39 : Tryd.prog.underlying 39 = some (.slice 5) := by kernel_rfl
theorem by_39 : bytesO Tryd.prog 39 = some 24 := by kernel_rfl
theorem eok_5 : elemOk Tryd.prog 5 = some (1, 1) := by kernel_rfl
theorem szO_41 : szO Tryd.prog 41 = some 2 := by kernel_rfl
theorem agg_41 : isAggT Tryd.prog 41 = some true := by kernel_rfl
theorem zero_41 : zeroO Tryd.prog 41 = some (.agg [.nilp, .nil]) := by kernel_rfl
theorem elem_41 : elemT Tryd.prog 41 = none := by kernel_rfl
theorem by_41 : bytesO Tryd.prog 41 = some 32 := by kernel_rfl
theorem stk_41 : structOk Tryd.prog 41 = true := by kernel_rfl
theorem szO_49 : szO Tryd.prog 49 = some 2 := by kernel_rfl
theorem agg_49 : isAggT Tryd.prog 49 = some true := by kernel_rfl
theorem zero_49 : zeroO Tryd.prog 49 = some (.agg [(.int .i64 0), (.int .i64 0)]) := by kernel_rfl
theorem elem_49 : elemT Tryd.prog 49 = none := by kernel_rfl
theorem by_49 : bytesO Tryd.prog 49 = some 16 := by kernel_rfl
theorem stk_49 : structOk Tryd.prog 49 = true := by kernel_rfl
theorem szO_56 : szO Tryd.prog 56 = some 1 := by kernel_rfl
theorem agg_56 : isAggT Tryd.prog 56 = some false := by kernel_rfl
theorem zero_56 : zeroO Tryd.prog 56 = some .nil := by kernel_rfl
theorem elem_56 : elemT Tryd.prog 56 = some 39 := by kernel_rfl
theorem und_56 : Tryd.prog.underlying 56 = some (.slice 39) := by kernel_rfl
theorem by_56 : bytesO Tryd.prog 56 = some 24 := by kernel_rfl
theorem eok_39 : elemOk Tryd.prog 39 = some (1, 24) := by kernel_rfl
theorem szO_57 : szO Tryd.prog 57 = some 1 := by kernel_rfl
theorem agg_57 : isAggT Tryd.prog 57 = some false := by kernel_rfl
theorem zero_57 : zeroO Tryd.prog 57 = some .nilp := by kernel_rfl
theorem elem_57 : elemT Tryd.prog 57 = none := by kernel_rfl
theorem und_57 : Tryd.prog.underlying 57 = some (.pointer 5) := by kernel_rfl
theorem by_57 : bytesO Tryd.prog 57 = some 8 := by kernel_rfl
theorem szO_63 : szO Tryd.prog 63 = some 1 := by kernel_rfl
theorem agg_63 : isAggT Tryd.prog 63 = some false := by kernel_rfl
theorem zero_63 : zeroO Tryd.prog 63 = some .nilf := by kernel_rfl
theorem elem_63 : elemT Tryd.prog 63 = none := by kernel_rfl
theorem by_63 : bytesO Tryd.prog 63 = some 8 := by kernel_rfl
theorem szO_69 : szO Tryd.prog 69 = some 256 := by kernel_rfl
theorem agg_69 : isAggT Tryd.prog 69 = some true := by kernel_rfl
theorem zero_69 : zeroO Tryd.prog 69 = some (.agg [(.bool false), (.bool false), (.bool false), (.bool false), (.bool false), (.bool false), (.bool false), (.bool false), (.bool false), (.bool false), (.bool false), (.bool false), (.bool false), (.bool false), (.bool false), (.bool false), (.bool false), (.bool false), (.bool false), (.bool false), (.bool false), (.bool false), (.bool false), (.bool false), (.bool false), (.bool false), (.bool false), (.bool false), (.bool false), (.bool false), (.bool false), (.bool false), (.bool false), (.bool false), (.bool false), (.bool false), (.bool false), (.bool false), (.bool false), (.bool false), (.bool false), (.bool false), (.bool false), (.bool false), (.bool false), (.bool false), (.bool false), (.bool false), (.bool false), (.bool false), (.bool false), (.bool false), (.bool false), (.bool false), (.bool false), (.bool false), (.bool false), (.bool false), (.bool false), (.bool false), (.bool false), (.bool false), (.bool false), (.bool false), (.bool false), (.bool false), (.bool false), (.bool false), (.bool false), (.bool false), (.bool false), (.bool false), (.bool false), (.bool false), (.bool false), (.bool false), (.bool false), (.bool false), (.bool false), (.bool false), (.bool false), (.bool false), (.bool false), (.bool false), (.bool false), (.bool false), (.bool false), (.bool false), (.bool false), (.bool false), (.bool false), (.bool false), (.bool false), (.bool false), (.bool false), (.bool false), (.bool false), (.bool false), (.bool false), (.bool false), (.bool false), (.bool false), (.bool false), (.bool false), (.bool false), (.bool false), (.bool false), (.bool false), (.bool false), (.bool false), (.bool false), (.bool false), (.bool false), (.bool false), (.bool false), (.bool false), (.bool false), (.bool false), (.bool false), (.bool false), (.bool false), (.bool false), (.bool false), (.bool false), (.bool false), (.bool false), (.bool false), (.bool false), (.bool false), (.bool false), (.bool false), (.bool false), (.bool false), (.bool false), (.bool false), (.bool false), (.bool false), (.bool false), (.bool false), (.bool false), (.bool false), (.bool false), (.bool false), (.bool false), (.bool false), (.bool false), (.bool false), (.bool false), (.bool false), (.bool false), (.bool false), (.bool false), (.bool false), (.bool false), (.bool false), (.bool false), (.bool false), (.bool false), (.bool false), (.bool false), (.bool false), (.bool false), (.bool false), (.bool false), (.bool false), (.bool false), (.bool false), (.bool false), (.bool false), (.bool false), (.bool false), (.bool false), (.bool false), (.bool false), (.bool false), (.bool false), (.bool false), (.bool false), (.bool false), (.bool false), (.bool false), (.bool false), (.bool false), (.bool false), (.bool false), (.bool false), (.bool false), (.bool false), (.bool false), (.bool false), (.bool false), (.bool false), (.bool false), (.bool false), (.bool false), (.bool false), (.bool false), (.bool false), (.bool false), (.bool false), (.bool false), (.bool false), (.bool false), (.bool false), (.bool false), (.bool false), (.bool false), (.bool false), (.bool false), (.bool false), (.bool false), (.bool false), (.bool false), (.bool false), (.bool false), (.bool false), (.bool false), (.bool false), (.bool false), (.bool false), (.bool false), (.bool false), (.bool false), (.bool false), (.bool false), (.bool false), (.bool false), (.bool false), (.bool false), (.bool false), (.bool false), (.bool false), (.bool false), (.bool false), (.bool false), (.bool false), (.bool false), (.bool false), (.bool false), (.bool false), (.bool false), (.bool false), (.bool false), (.bool false), (.bool false), (.bool false), (.bool false), (.bool false), (.bool false), (.bool false), (.bool false), (.bool false), (.bool false), (.bool false), (.bool false), (.bool false)]) := by kernel_rfl
theorem elem_69 : elemT Tryd.prog 69 = none := by kernel_rfl
theorem by_69 : bytesO Tryd.prog 69 = some 256 := by kernel_rfl
theorem szO_73 : szO Tryd.prog 73 = some 1 := by kernel_rfl
theorem agg_73 : isAggT Tryd.prog 73 = some false := by kernel_rfl
theorem zero_73 : zeroO Tryd.prog 73 = some .nilp := by kernel_rfl
theorem elem_73 : elemT Tryd.prog 73 = none := by kernel_rfl
theorem und_73 : Tryd.prog.underlying 73 = some (.pointer 69) := by kernel_rfl
theorem by_73 : bytesO Tryd.prog 73 = some 8 := by kernel_rfl
theorem szO_75 : szO Tryd.prog 75 = some 1 := by kernel_rfl
theorem agg_75 : isAggT Tryd.prog 75 = some false := by kernel_rfl
theorem zero_75 : zeroO Tryd.prog 75 = some .nilp := by kernel_rfl
theorem elem_75 : elemT Tryd.prog 75 = none := by kernel_rfl
theorem by_75 : bytesO Tryd.prog 75 = some 8 := by kernel_rfl
theorem fld_41_0 : fieldT Tryd.prog 41 0 = some (38, 0) := by kernel_rfl
theorem fld_41_1 : fieldT Tryd.prog 41 1 = some (39, 1) := by kernel_rfl
theorem fld_49_0 : fieldT Tryd.prog 49 0 = some (3, 0) := by kernel_rfl
theorem fld_49_1 : fieldT Tryd.prog 49 1 = some (3, 1) := by kernel_rfl
theorem cv_3_5 : cvKind Tryd.prog 3 5 = .int .u8 := by kernel_rfl
theorem cv_5_21 : cvKind Tryd.prog 5 21 = .int .i32 := by kernel_rfl
theorem cv_9_39 : cvKind Tryd.prog 9 39 = .sb := by kernel_rfl
theorem cv_21_5 : cvKind Tryd.prog 21 5 = .int .u8 := by kernel_rfl
theorem cv_39_9 : cvKind Tryd.prog 39 9 = .bs := by kernel_rfl
attribute [go_sem] szO_3 agg_3 zero_3 elem_3 und_3 by_3 szO_4 agg_4 zero_4 elem_4 und_4 by_4 szO_5 agg_5 zero_5 elem_5 und_5 by_5 szO_9 agg_9 zero_9 elem_9 isStr_9 und_9 by_9 szO_21 agg_21 zero_21 elem_21 und_21 by_21 szO_22 agg_22 zero_22 elem_22 und_22 by_22 eok_9 szO_27 agg_27 zero_27 elem_27 und_27 by_27 eok_3 szO_36 agg_36 zero_36 elem_36 by_36 szO_38 agg_38 zero_38 elem_38 und_38 by_38 szO_39 agg_39 zero_39 elem_39 und_39 by_39 eok_5 szO_41 agg_41 zero_41 elem_41 by_41 stk_41 szO_49 agg_49 zero_49 elem_49 by_49 stk_49 szO_56 agg_56 zero_56 elem_56 und_56 by_56 eok_39 szO_57 agg_57 zero_57 elem_57 und_57 by_57 szO_63 agg_63 zero_63 elem_63 by_63 szO_69 agg_69 zero_69 elem_69 by_69 szO_73 agg_73 zero_73 elem_73 und_73 by_73 szO_75 agg_75 zero_75 elem_75 by_75 fld_41_0 fld_41_1 fld_49_0 fld_49_1 cv_3_5 cv_5_21 cv_9_39 cv_21_5 cv_39_9
end Go.Proofs.YtmgggjaphphkhaaDoor
