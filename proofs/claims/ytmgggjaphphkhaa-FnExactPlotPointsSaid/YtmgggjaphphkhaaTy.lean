/- Facts on the types that the functions use, each by computation. -/
import Derived.Test.YtmgggjaphphkhaaAbB
import Derived.Test.YtmgggjaphphkhaaProg
import Derived.KernelRfl
namespace Go.Proofs.Ytmgggjaphphkhaa
open Go Go.Ab
set_option maxRecDepth 100000
theorem szO_3 : szO Try.prog 3 = some 1 := by kernel_rfl
theorem agg_3 : isAggT Try.prog 3 = some false := by kernel_rfl
theorem zero_3 : zeroO Try.prog 3 = some (.int .i64 0) := by kernel_rfl
theorem elem_3 : elemT Try.prog 3 = none := by kernel_rfl
theorem und_3 : Try.prog.underlying 3 = some (.int .i64) := by kernel_rfl
theorem by_3 : bytesO Try.prog 3 = some 8 := by kernel_rfl
theorem szO_4 : szO Try.prog 4 = some 1 := by kernel_rfl
theorem agg_4 : isAggT Try.prog 4 = some false := by kernel_rfl
theorem zero_4 : zeroO Try.prog 4 = some (.bool false) := by kernel_rfl
theorem elem_4 : elemT Try.prog 4 = none := by kernel_rfl
theorem und_4 : Try.prog.underlying 4 = some (.bool) := by kernel_rfl
theorem by_4 : bytesO Try.prog 4 = some 1 := by kernel_rfl
theorem szO_5 : szO Try.prog 5 = some 1 := by kernel_rfl
theorem agg_5 : isAggT Try.prog 5 = some false := by kernel_rfl
theorem zero_5 : zeroO Try.prog 5 = some (.int .u8 0) := by kernel_rfl
theorem elem_5 : elemT Try.prog 5 = none := by kernel_rfl
theorem und_5 : Try.prog.underlying 5 = some (.int .u8) := by kernel_rfl
theorem by_5 : bytesO Try.prog 5 = some 1 := by kernel_rfl
theorem szO_9 : szO Try.prog 9 = some 1 := by kernel_rfl
theorem agg_9 : isAggT Try.prog 9 = some false := by kernel_rfl
theorem zero_9 : zeroO Try.prog 9 = some (.str []) := by kernel_rfl
theorem elem_9 : elemT Try.prog 9 = none := by kernel_rfl
theorem isStr_9 : isStrT Try.prog 9 = true := by kernel_rfl
theorem und_9 : Try.prog.underlying 9 = some (.string) := by kernel_rfl
theorem by_9 : bytesO Try.prog 9 = some 16 := by kernel_rfl
theorem szO_23 : szO Try.prog 23 = some 2 := by kernel_rfl
theorem agg_23 : isAggT Try.prog 23 = some true := by kernel_rfl
theorem zero_23 : zeroO Try.prog 23 = some (.agg [(.int .i64 0), (.int .i64 0)]) := by kernel_rfl
theorem elem_23 : elemT Try.prog 23 = none := by kernel_rfl
theorem by_23 : bytesO Try.prog 23 = some 16 := by kernel_rfl
theorem stk_23 : structOk Try.prog 23 = true := by kernel_rfl
theorem szO_26 : szO Try.prog 26 = some 2 := by kernel_rfl
theorem agg_26 : isAggT Try.prog 26 = some true := by kernel_rfl
theorem zero_26 : zeroO Try.prog 26 = some (.agg [(.int .i64 0), (.int .i64 0)]) := by kernel_rfl
theorem elem_26 : elemT Try.prog 26 = none := by kernel_rfl
theorem by_26 : bytesO Try.prog 26 = some 16 := by kernel_rfl
theorem stk_26 : structOk Try.prog 26 = true := by kernel_rfl
theorem szO_29 : szO Try.prog 29 = some 1 := by kernel_rfl
theorem agg_29 : isAggT Try.prog 29 = some false := by kernel_rfl
theorem zero_29 : zeroO Try.prog 29 = some .nil := by kernel_rfl
theorem elem_29 : elemT Try.prog 29 = some 26 := by kernel_rfl
theorem und_29 : Try.prog.underlying 29 = some (.slice 26) := by kernel_rfl
theorem by_29 : bytesO Try.prog 29 = some 24 := by kernel_rfl
theorem eok_26 : elemOk Try.prog 26 = some (2, 16) := by kernel_rfl
theorem szO_34 : szO Try.prog 34 = some 1 := by kernel_rfl
theorem agg_34 : isAggT Try.prog 34 = some false := by kernel_rfl
theorem zero_34 : zeroO Try.prog 34 = some .nilf := by kernel_rfl
theorem elem_34 : elemT Try.prog 34 = none := by kernel_rfl
theorem by_34 : bytesO Try.prog 34 = some 8 := by kernel_rfl
theorem szO_35 : szO Try.prog 35 = some 1 := by kernel_rfl
theorem agg_35 : isAggT Try.prog 35 = some false := by kernel_rfl
theorem zero_35 : zeroO Try.prog 35 = some .nil := by kernel_rfl
theorem elem_35 : elemT Try.prog 35 = some 23 := by kernel_rfl
theorem und_35 : Try.prog.underlying 35 = some (.slice 23) := by kernel_rfl
theorem by_35 : bytesO Try.prog 35 = some 24 := by kernel_rfl
theorem eok_23 : elemOk Try.prog 23 = some (2, 16) := by kernel_rfl
theorem szO_37 : szO Try.prog 37 = some 1 := by kernel_rfl
theorem agg_37 : isAggT Try.prog 37 = some false := by kernel_rfl
theorem zero_37 : zeroO Try.prog 37 = some .nil := by kernel_rfl
theorem elem_37 : elemT Try.prog 37 = some 3 := by kernel_rfl
theorem und_37 : Try.prog.underlying 37 = some (.slice 3) := by kernel_rfl
theorem by_37 : bytesO Try.prog 37 = some 24 := by kernel_rfl
theorem eok_3 : elemOk Try.prog 3 = some (1, 8) := by kernel_rfl
theorem szO_50 : szO Try.prog 50 = some 1 := by kernel_rfl
theorem agg_50 : isAggT Try.prog 50 = some false := by kernel_rfl
theorem zero_50 : zeroO Try.prog 50 = some .nil := by kernel_rfl
theorem elem_50 : elemT Try.prog 50 = some 94 := by kernel_rfl
theorem und_50 : Try.prog.underlying 50 = some (.slice 94) := by kernel_rfl
theorem by_50 : bytesO Try.prog 50 = some 24 := by kernel_rfl
theorem eok_94 : elemOk Try.prog 94 = some (4, 32) := by kernel_rfl
theorem szO_52 : szO Try.prog 52 = some 1 := by kernel_rfl
theorem agg_52 : isAggT Try.prog 52 = some false := by kernel_rfl
theorem zero_52 : zeroO Try.prog 52 = some .nil := by kernel_rfl
theorem elem_52 : elemT Try.prog 52 = some 9 := by kernel_rfl
theorem und_52 : Try.prog.underlying 52 = some (.slice 9) := by kernel_rfl
theorem by_52 : bytesO Try.prog 52 = some 24 := by kernel_rfl
theorem eok_9 : elemOk Try.prog 9 = some (1, 16) := by kernel_rfl
theorem szO_55 : szO Try.prog 55 = some 1 := by kernel_rfl
theorem agg_55 : isAggT Try.prog 55 = some false := by kernel_rfl
theorem zero_55 : zeroO Try.prog 55 = some .nil := by kernel_rfl
theorem elem_55 : elemT Try.prog 55 = some 90 := by kernel_rfl
theorem und_55 : Try.prog.underlying 55 = some (.slice 90) := by kernel_rfl
theorem by_55 : bytesO Try.prog 55 = some 24 := by kernel_rfl
theorem eok_90 : elemOk Try.prog 90 = some (4, 32) := by kernel_rfl
theorem szO_67 : szO Try.prog 67 = some 1 := by kernel_rfl
theorem agg_67 : isAggT Try.prog 67 = some false := by kernel_rfl
theorem zero_67 : zeroO Try.prog 67 = some .nilf := by kernel_rfl
theorem elem_67 : elemT Try.prog 67 = none := by kernel_rfl
theorem by_67 : bytesO Try.prog 67 = some 8 := by kernel_rfl
theorem szO_78 : szO Try.prog 78 = some 1 := by kernel_rfl
theorem agg_78 : isAggT Try.prog 78 = some false := by kernel_rfl
theorem zero_78 : zeroO Try.prog 78 = some .nilp := by kernel_rfl
theorem elem_78 : elemT Try.prog 78 = none := by kernel_rfl
theorem und_78 : Try.prog.underlying 78 = some (.pointer 81) := by kernel_rfl
theorem by_78 : bytesO Try.prog 78 = some 8 := by kernel_rfl
theorem szO_79 : szO Try.prog 79 = some 1 := by kernel_rfl
theorem agg_79 : isAggT Try.prog 79 = some false := by kernel_rfl
theorem zero_79 : zeroO Try.prog 79 = some .nil := by kernel_rfl
theorem elem_79 : elemT Try.prog 79 = some 5 := by kernel_rfl
theorem und_79 : Try.prog.underlying 79 = some (.slice 5) := by kernel_rfl
theorem by_79 : bytesO Try.prog 79 = some 24 := by kernel_rfl
theorem eok_5 : elemOk Try.prog 5 = some (1, 1) := by kernel_rfl
theorem szO_81 : szO Try.prog 81 = some 2 := by kernel_rfl
theorem agg_81 : isAggT Try.prog 81 = some true := by kernel_rfl
theorem zero_81 : zeroO Try.prog 81 = some (.agg [.nilp, .nil]) := by kernel_rfl
theorem elem_81 : elemT Try.prog 81 = none := by kernel_rfl
theorem by_81 : bytesO Try.prog 81 = some 32 := by kernel_rfl
theorem stk_81 : structOk Try.prog 81 = true := by kernel_rfl
theorem szO_90 : szO Try.prog 90 = some 4 := by kernel_rfl
theorem agg_90 : isAggT Try.prog 90 = some true := by kernel_rfl
theorem zero_90 : zeroO Try.prog 90 = some (.agg [(.int .i64 0), (.int .i64 0), (.int .i64 0), (.int .i64 0)]) := by kernel_rfl
theorem elem_90 : elemT Try.prog 90 = none := by kernel_rfl
theorem by_90 : bytesO Try.prog 90 = some 32 := by kernel_rfl
theorem stk_90 : structOk Try.prog 90 = true := by kernel_rfl
theorem szO_94 : szO Try.prog 94 = some 4 := by kernel_rfl
theorem agg_94 : isAggT Try.prog 94 = some true := by kernel_rfl
theorem zero_94 : zeroO Try.prog 94 = some (.agg [(.int .i64 0), (.int .i64 0), (.int .i64 0), (.int .i64 0)]) := by kernel_rfl
theorem elem_94 : elemT Try.prog 94 = none := by kernel_rfl
theorem by_94 : bytesO Try.prog 94 = some 32 := by kernel_rfl
theorem stk_94 : structOk Try.prog 94 = true := by kernel_rfl
theorem szO_96 : szO Try.prog 96 = some 1 := by kernel_rfl
theorem agg_96 : isAggT Try.prog 96 = some false := by kernel_rfl
theorem zero_96 : zeroO Try.prog 96 = some .nilf := by kernel_rfl
theorem elem_96 : elemT Try.prog 96 = none := by kernel_rfl
theorem by_96 : bytesO Try.prog 96 = some 8 := by kernel_rfl
theorem szO_98 : szO Try.prog 98 = some 1 := by kernel_rfl
theorem agg_98 : isAggT Try.prog 98 = some false := by kernel_rfl
theorem zero_98 : zeroO Try.prog 98 = some .nil := by kernel_rfl
theorem elem_98 : elemT Try.prog 98 = some 79 := by kernel_rfl
theorem und_98 : Try.prog.underlying 98 = some (.slice 79) := by kernel_rfl
theorem by_98 : bytesO Try.prog 98 = some 24 := by kernel_rfl
theorem eok_79 : elemOk Try.prog 79 = some (1, 24) := by kernel_rfl
theorem szO_100 : szO Try.prog 100 = some 1 := by kernel_rfl
theorem agg_100 : isAggT Try.prog 100 = some false := by kernel_rfl
theorem zero_100 : zeroO Try.prog 100 = some .nilp := by kernel_rfl
theorem elem_100 : elemT Try.prog 100 = none := by kernel_rfl
theorem und_100 : Try.prog.underlying 100 = some (.pointer 5) := by kernel_rfl
theorem by_100 : bytesO Try.prog 100 = some 8 := by kernel_rfl
theorem szO_111 : szO Try.prog 111 = some 1 := by kernel_rfl
theorem agg_111 : isAggT Try.prog 111 = some true := by kernel_rfl
theorem zero_111 : zeroO Try.prog 111 = some (.agg [(.bool false)]) := by kernel_rfl
theorem elem_111 : elemT Try.prog 111 = none := by kernel_rfl
theorem by_111 : bytesO Try.prog 111 = some 1 := by kernel_rfl
theorem stk_111 : structOk Try.prog 111 = true := by kernel_rfl
theorem szO_120 : szO Try.prog 120 = some 1 := by kernel_rfl
theorem agg_120 : isAggT Try.prog 120 = some false := by kernel_rfl
theorem zero_120 : zeroO Try.prog 120 = some (.int .u64 0) := by kernel_rfl
theorem elem_120 : elemT Try.prog 120 = none := by kernel_rfl
theorem und_120 : Try.prog.underlying 120 = some (.int .u64) := by kernel_rfl
theorem by_120 : bytesO Try.prog 120 = some 8 := by kernel_rfl
theorem szO_134 : szO Try.prog 134 = some 1 := by kernel_rfl
theorem agg_134 : isAggT Try.prog 134 = some false := by kernel_rfl
theorem zero_134 : zeroO Try.prog 134 = some .nilp := by kernel_rfl
theorem elem_134 : elemT Try.prog 134 = none := by kernel_rfl
theorem und_134 : Try.prog.underlying 134 = some (.pointer 111) := by kernel_rfl
theorem by_134 : bytesO Try.prog 134 = some 8 := by kernel_rfl
theorem szO_140 : szO Try.prog 140 = some 1 := by kernel_rfl
theorem agg_140 : isAggT Try.prog 140 = some false := by kernel_rfl
theorem zero_140 : zeroO Try.prog 140 = some .nilp := by kernel_rfl
theorem elem_140 : elemT Try.prog 140 = none := by kernel_rfl
theorem by_140 : bytesO Try.prog 140 = some 8 := by kernel_rfl
theorem fld_23_0 : fieldT Try.prog 23 0 = some (3, 0) := by kernel_rfl
theorem fld_23_1 : fieldT Try.prog 23 1 = some (3, 1) := by kernel_rfl
theorem fld_26_0 : fieldT Try.prog 26 0 = some (3, 0) := by kernel_rfl
theorem fld_26_1 : fieldT Try.prog 26 1 = some (3, 1) := by kernel_rfl
theorem fld_81_0 : fieldT Try.prog 81 0 = some (78, 0) := by kernel_rfl
theorem fld_81_1 : fieldT Try.prog 81 1 = some (79, 1) := by kernel_rfl
theorem fld_90_0 : fieldT Try.prog 90 0 = some (26, 0) := by kernel_rfl
theorem fld_90_1 : fieldT Try.prog 90 1 = some (26, 2) := by kernel_rfl
theorem fld_94_0 : fieldT Try.prog 94 0 = some (23, 0) := by kernel_rfl
theorem fld_94_1 : fieldT Try.prog 94 1 = some (23, 2) := by kernel_rfl
theorem fld_111_0 : fieldT Try.prog 111 0 = some (4, 0) := by kernel_rfl
theorem cv_3_5 : cvKind Try.prog 3 5 = .int .u8 := by kernel_rfl
theorem cv_3_120 : cvKind Try.prog 3 120 = .int .u64 := by kernel_rfl
theorem cv_79_9 : cvKind Try.prog 79 9 = .bs := by kernel_rfl
theorem cv_120_3 : cvKind Try.prog 120 3 = .int .i64 := by kernel_rfl
attribute [go_sem] szO_3 agg_3 zero_3 elem_3 und_3 by_3 szO_4 agg_4 zero_4 elem_4 und_4 by_4 szO_5 agg_5 zero_5 elem_5 und_5 by_5 szO_9 agg_9 zero_9 elem_9 isStr_9 und_9 by_9 szO_23 agg_23 zero_23 elem_23 by_23 stk_23 szO_26 agg_26 zero_26 elem_26 by_26 stk_26 szO_29 agg_29 zero_29 elem_29 und_29 by_29 eok_26 szO_34 agg_34 zero_34 elem_34 by_34 szO_35 agg_35 zero_35 elem_35 und_35 by_35 eok_23 szO_37 agg_37 zero_37 elem_37 und_37 by_37 eok_3 szO_50 agg_50 zero_50 elem_50 und_50 by_50 eok_94 szO_52 agg_52 zero_52 elem_52 und_52 by_52 eok_9 szO_55 agg_55 zero_55 elem_55 und_55 by_55 eok_90 szO_67 agg_67 zero_67 elem_67 by_67 szO_78 agg_78 zero_78 elem_78 und_78 by_78 szO_79 agg_79 zero_79 elem_79 und_79 by_79 eok_5 szO_81 agg_81 zero_81 elem_81 by_81 stk_81 szO_90 agg_90 zero_90 elem_90 by_90 stk_90 szO_94 agg_94 zero_94 elem_94 by_94 stk_94 szO_96 agg_96 zero_96 elem_96 by_96 szO_98 agg_98 zero_98 elem_98 und_98 by_98 eok_79 szO_100 agg_100 zero_100 elem_100 und_100 by_100 szO_111 agg_111 zero_111 elem_111 by_111 stk_111 szO_120 agg_120 zero_120 elem_120 und_120 by_120 szO_134 agg_134 zero_134 elem_134 und_134 by_134 szO_140 agg_140 zero_140 elem_140 by_140 fld_23_0 fld_23_1 fld_26_0 fld_26_1 fld_81_0 fld_81_1 fld_90_0 fld_90_1 fld_94_0 fld_94_1 fld_111_0 cv_3_5 cv_3_120 cv_79_9 cv_120_3
end Go.Proofs.Ytmgggjaphphkhaa
