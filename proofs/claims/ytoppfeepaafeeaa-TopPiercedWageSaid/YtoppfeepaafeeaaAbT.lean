/- Facts of the seat: its types and its functions, by number. -/
import Derived.Test.YtoppfeepaafeeaaAbP
import Derived.Test.YtoppfeepaafeeaaProg
import Derived.KernelRfl
namespace Go.Proofs.Ytoppfeepaafeeaa.Ab
open Go Go.RowKit
theorem tyc_2 : tyc Try.prog 2 = some (false, 1) := by kernel_rfl
theorem zer_2 : zer Try.prog 2 = some [Go.Value.int Go.IntKind.i64 0] := by kernel_rfl
theorem und_2 : Try.prog.underlying 2 = some (.int .i64) := by kernel_rfl
theorem apf_2 : apf Try.prog 2 = some (1, 8) := by kernel_rfl
theorem tyc_3 : tyc Try.prog 3 = some (false, 1) := by kernel_rfl
theorem zer_3 : zer Try.prog 3 = some [Go.Value.int Go.IntKind.i64 0] := by kernel_rfl
theorem und_3 : Try.prog.underlying 3 = some (.int .i64) := by kernel_rfl
theorem apf_3 : apf Try.prog 3 = some (1, 8) := by kernel_rfl
theorem tyc_4 : tyc Try.prog 4 = some (false, 1) := by kernel_rfl
theorem zer_4 : zer Try.prog 4 = some [Go.Value.bool false] := by kernel_rfl
theorem und_4 : Try.prog.underlying 4 = some .bool := by kernel_rfl
theorem apf_4 : apf Try.prog 4 = some (1, 1) := by kernel_rfl
theorem tyc_5 : tyc Try.prog 5 = some (false, 1) := by kernel_rfl
theorem zer_5 : zer Try.prog 5 = some [Go.Value.int Go.IntKind.u8 0] := by kernel_rfl
theorem und_5 : Try.prog.underlying 5 = some (.int .u8) := by kernel_rfl
theorem apf_5 : apf Try.prog 5 = some (1, 1) := by kernel_rfl
theorem tyc_6 : tyc Try.prog 6 = some (false, 1) := by kernel_rfl
theorem zer_6 : zer Try.prog 6 = some [Go.Value.int Go.IntKind.u8 0] := by kernel_rfl
theorem und_6 : Try.prog.underlying 6 = some (.int .u8) := by kernel_rfl
theorem apf_6 : apf Try.prog 6 = some (1, 1) := by kernel_rfl
theorem tyc_7 : tyc Try.prog 7 = some (true, 4) := by kernel_rfl
theorem zer_7 : zer Try.prog 7 = some [Go.Value.int Go.IntKind.i64 0, Go.Value.int Go.IntKind.i64 0, Go.Value.bool false, Go.Value.int Go.IntKind.u8 0] := by kernel_rfl
theorem fld_7_0 : fld Try.prog 7 0 = some (0, 2) := by kernel_rfl
theorem fld_7_1 : fld Try.prog 7 1 = some (1, 3) := by kernel_rfl
theorem fld_7_2 : fld Try.prog 7 2 = some (2, 4) := by kernel_rfl
theorem fld_7_3 : fld Try.prog 7 3 = some (3, 6) := by kernel_rfl
theorem stf_7 : stf Try.prog 7 = some [(0, 1), (1, 1), (2, 1), (3, 1)] := by kernel_rfl
theorem arr_7 : arr Try.prog 7 = none := by kernel_rfl
theorem apf_7 : apf Try.prog 7 = some (4, 24) := by kernel_rfl
theorem tyc_8 : tyc Try.prog 8 = some (true, 4) := by kernel_rfl
theorem zer_8 : zer Try.prog 8 = some [Go.Value.int Go.IntKind.i64 0, Go.Value.int Go.IntKind.i64 0, Go.Value.bool false, Go.Value.int Go.IntKind.u8 0] := by kernel_rfl
theorem fld_8_0 : fld Try.prog 8 0 = some (0, 2) := by kernel_rfl
theorem fld_8_1 : fld Try.prog 8 1 = some (1, 3) := by kernel_rfl
theorem fld_8_2 : fld Try.prog 8 2 = some (2, 4) := by kernel_rfl
theorem fld_8_3 : fld Try.prog 8 3 = some (3, 6) := by kernel_rfl
theorem stf_8 : stf Try.prog 8 = some [(0, 1), (1, 1), (2, 1), (3, 1)] := by kernel_rfl
theorem arr_8 : arr Try.prog 8 = none := by kernel_rfl
theorem apf_8 : apf Try.prog 8 = some (4, 24) := by kernel_rfl
theorem tyc_9 : tyc Try.prog 9 = some (false, 1) := by kernel_rfl
theorem zer_9 : zer Try.prog 9 = some [Go.Value.string { data := #[] }] := by kernel_rfl
theorem apf_9 : apf Try.prog 9 = some (1, 16) := by kernel_rfl
theorem tyc_10 : tyc Try.prog 10 = some (false, 1) := by kernel_rfl
theorem zer_10 : zer Try.prog 10 = some [Go.Value.string { data := #[] }] := by kernel_rfl
theorem apf_10 : apf Try.prog 10 = some (1, 16) := by kernel_rfl
theorem tyc_11 : tyc Try.prog 11 = some (false, 1) := by kernel_rfl
theorem zer_11 : zer Try.prog 11 = some [Go.Value.string { data := #[] }] := by kernel_rfl
theorem apf_11 : apf Try.prog 11 = some (1, 16) := by kernel_rfl
theorem tyc_12 : tyc Try.prog 12 = some (false, 1) := by kernel_rfl
theorem zer_12 : zer Try.prog 12 = some [Go.Value.int Go.IntKind.u64 0] := by kernel_rfl
theorem und_12 : Try.prog.underlying 12 = some (.int .u64) := by kernel_rfl
theorem apf_12 : apf Try.prog 12 = some (1, 8) := by kernel_rfl
theorem tyc_13 : tyc Try.prog 13 = some (true, 2) := by kernel_rfl
theorem zer_13 : zer Try.prog 13 = some [Go.Value.string { data := #[] }, Go.Value.int Go.IntKind.u64 0] := by kernel_rfl
theorem fld_13_0 : fld Try.prog 13 0 = some (0, 9) := by kernel_rfl
theorem fld_13_1 : fld Try.prog 13 1 = some (1, 12) := by kernel_rfl
theorem stf_13 : stf Try.prog 13 = some [(0, 1), (1, 1)] := by kernel_rfl
theorem arr_13 : arr Try.prog 13 = none := by kernel_rfl
theorem apf_13 : apf Try.prog 13 = some (2, 24) := by kernel_rfl
theorem tyc_14 : tyc Try.prog 14 = some (true, 2) := by kernel_rfl
theorem zer_14 : zer Try.prog 14 = some [Go.Value.string { data := #[] }, Go.Value.int Go.IntKind.u64 0] := by kernel_rfl
theorem fld_14_0 : fld Try.prog 14 0 = some (0, 9) := by kernel_rfl
theorem fld_14_1 : fld Try.prog 14 1 = some (1, 12) := by kernel_rfl
theorem stf_14 : stf Try.prog 14 = some [(0, 1), (1, 1)] := by kernel_rfl
theorem arr_14 : arr Try.prog 14 = none := by kernel_rfl
theorem apf_14 : apf Try.prog 14 = some (2, 24) := by kernel_rfl
theorem tyc_15 : tyc Try.prog 15 = some (false, 1) := by kernel_rfl
theorem zer_15 : zer Try.prog 15 = some [Go.Value.pointer none] := by kernel_rfl
theorem apf_15 : apf Try.prog 15 = some (1, 8) := by kernel_rfl
theorem tyc_16 : tyc Try.prog 16 = some (false, 1) := by kernel_rfl
theorem zer_16 : zer Try.prog 16 = some [Go.Value.pointer none] := by kernel_rfl
theorem apf_16 : apf Try.prog 16 = some (1, 8) := by kernel_rfl
theorem tyc_17 : tyc Try.prog 17 = some (false, 1) := by kernel_rfl
theorem zer_17 : zer Try.prog 17 = some [Go.Value.pointer none] := by kernel_rfl
theorem apf_17 : apf Try.prog 17 = some (1, 8) := by kernel_rfl
theorem tyc_18 : tyc Try.prog 18 = some (true, 1) := by kernel_rfl
theorem zer_18 : zer Try.prog 18 = some [Go.Value.pointer none] := by kernel_rfl
theorem fld_18_0 : fld Try.prog 18 0 = some (0, 17) := by kernel_rfl
theorem stf_18 : stf Try.prog 18 = some [(0, 1)] := by kernel_rfl
theorem arr_18 : arr Try.prog 18 = none := by kernel_rfl
theorem apf_18 : apf Try.prog 18 = some (1, 8) := by kernel_rfl
theorem tyc_19 : tyc Try.prog 19 = some (true, 1) := by kernel_rfl
theorem zer_19 : zer Try.prog 19 = some [Go.Value.pointer none] := by kernel_rfl
theorem fld_19_0 : fld Try.prog 19 0 = some (0, 17) := by kernel_rfl
theorem stf_19 : stf Try.prog 19 = some [(0, 1)] := by kernel_rfl
theorem arr_19 : arr Try.prog 19 = none := by kernel_rfl
theorem apf_19 : apf Try.prog 19 = some (1, 8) := by kernel_rfl
theorem tyc_21 : tyc Try.prog 21 = some (false, 1) := by kernel_rfl
theorem zer_21 : zer Try.prog 21 = some [Go.Value.int Go.IntKind.i32 0] := by kernel_rfl
theorem und_21 : Try.prog.underlying 21 = some (.int .i32) := by kernel_rfl
theorem apf_21 : apf Try.prog 21 = some (1, 4) := by kernel_rfl
theorem tyc_22 : tyc Try.prog 22 = some (true, 5) := by kernel_rfl
theorem zer_22 : zer Try.prog 22 = some [Go.Value.int Go.IntKind.u8 0, Go.Value.int Go.IntKind.u8 0, Go.Value.int Go.IntKind.u8 0, Go.Value.int Go.IntKind.u8 0, Go.Value.int Go.IntKind.u8 0] := by kernel_rfl
theorem arr_22 : arr Try.prog 22 = some (5, 5, 1) := by kernel_rfl
theorem stf_22 : stf Try.prog 22 = none := by kernel_rfl
theorem apf_22 : apf Try.prog 22 = some (5, 5) := by kernel_rfl
theorem tyc_23 : tyc Try.prog 23 = some (true, 2) := by kernel_rfl
theorem zer_23 : zer Try.prog 23 = some [Go.Value.int Go.IntKind.u8 0, Go.Value.int Go.IntKind.u8 0] := by kernel_rfl
theorem arr_23 : arr Try.prog 23 = some (2, 5, 1) := by kernel_rfl
theorem stf_23 : stf Try.prog 23 = none := by kernel_rfl
theorem apf_23 : apf Try.prog 23 = some (2, 2) := by kernel_rfl
theorem tyc_24 : tyc Try.prog 24 = some (false, 1) := by kernel_rfl
theorem zer_24 : zer Try.prog 24 = some [Go.Value.int Go.IntKind.u16 0] := by kernel_rfl
theorem und_24 : Try.prog.underlying 24 = some (.int .u16) := by kernel_rfl
theorem apf_24 : apf Try.prog 24 = some (1, 2) := by kernel_rfl
theorem tyc_25 : tyc Try.prog 25 = some (true, 2) := by kernel_rfl
theorem zer_25 : zer Try.prog 25 = some [Go.Value.int Go.IntKind.u16 0, Go.Value.int Go.IntKind.u16 0] := by kernel_rfl
theorem arr_25 : arr Try.prog 25 = some (2, 24, 1) := by kernel_rfl
theorem stf_25 : stf Try.prog 25 = none := by kernel_rfl
theorem apf_25 : apf Try.prog 25 = some (2, 4) := by kernel_rfl
theorem tyc_26 : tyc Try.prog 26 = some (true, 2) := by kernel_rfl
theorem zer_26 : zer Try.prog 26 = some [Go.Value.int Go.IntKind.i64 0, Go.Value.int Go.IntKind.i64 0] := by kernel_rfl
theorem fld_26_0 : fld Try.prog 26 0 = some (0, 3) := by kernel_rfl
theorem fld_26_1 : fld Try.prog 26 1 = some (1, 3) := by kernel_rfl
theorem stf_26 : stf Try.prog 26 = some [(0, 1), (1, 1)] := by kernel_rfl
theorem arr_26 : arr Try.prog 26 = none := by kernel_rfl
theorem apf_26 : apf Try.prog 26 = some (2, 16) := by kernel_rfl
theorem tyc_27 : tyc Try.prog 27 = some (true, 2) := by kernel_rfl
theorem zer_27 : zer Try.prog 27 = some [Go.Value.int Go.IntKind.i64 0, Go.Value.int Go.IntKind.i64 0] := by kernel_rfl
theorem fld_27_0 : fld Try.prog 27 0 = some (0, 3) := by kernel_rfl
theorem fld_27_1 : fld Try.prog 27 1 = some (1, 3) := by kernel_rfl
theorem stf_27 : stf Try.prog 27 = some [(0, 1), (1, 1)] := by kernel_rfl
theorem arr_27 : arr Try.prog 27 = none := by kernel_rfl
theorem apf_27 : apf Try.prog 27 = some (2, 16) := by kernel_rfl
theorem tyc_28 : tyc Try.prog 28 = some (false, 1) := by kernel_rfl
theorem zer_28 : zer Try.prog 28 = some [Go.Value.slice none 0 0] := by kernel_rfl
theorem elt_28 : elt Try.prog 28 = some (41, 2) := by kernel_rfl
theorem apf_28 : apf Try.prog 28 = some (1, 24) := by kernel_rfl
theorem tyc_29 : tyc Try.prog 29 = some (true, 3) := by kernel_rfl
theorem zer_29 : zer Try.prog 29 = some [Go.Value.slice none 0 0, Go.Value.int Go.IntKind.i64 0, Go.Value.int Go.IntKind.i64 0] := by kernel_rfl
theorem fld_29_0 : fld Try.prog 29 0 = some (0, 28) := by kernel_rfl
theorem fld_29_1 : fld Try.prog 29 1 = some (1, 3) := by kernel_rfl
theorem fld_29_2 : fld Try.prog 29 2 = some (2, 3) := by kernel_rfl
theorem stf_29 : stf Try.prog 29 = some [(0, 1), (1, 1), (2, 1)] := by kernel_rfl
theorem arr_29 : arr Try.prog 29 = none := by kernel_rfl
theorem apf_29 : apf Try.prog 29 = some (3, 40) := by kernel_rfl
theorem tyc_30 : tyc Try.prog 30 = some (true, 3) := by kernel_rfl
theorem zer_30 : zer Try.prog 30 = some [Go.Value.slice none 0 0, Go.Value.int Go.IntKind.i64 0, Go.Value.int Go.IntKind.i64 0] := by kernel_rfl
theorem fld_30_0 : fld Try.prog 30 0 = some (0, 28) := by kernel_rfl
theorem fld_30_1 : fld Try.prog 30 1 = some (1, 3) := by kernel_rfl
theorem fld_30_2 : fld Try.prog 30 2 = some (2, 3) := by kernel_rfl
theorem stf_30 : stf Try.prog 30 = some [(0, 1), (1, 1), (2, 1)] := by kernel_rfl
theorem arr_30 : arr Try.prog 30 = none := by kernel_rfl
theorem apf_30 : apf Try.prog 30 = some (3, 40) := by kernel_rfl
theorem tyc_32 : tyc Try.prog 32 = some (true, 2) := by kernel_rfl
theorem zer_32 : zer Try.prog 32 = some [Go.Value.int Go.IntKind.i64 0, Go.Value.int Go.IntKind.i64 0] := by kernel_rfl
theorem fld_32_0 : fld Try.prog 32 0 = some (0, 3) := by kernel_rfl
theorem fld_32_1 : fld Try.prog 32 1 = some (1, 3) := by kernel_rfl
theorem stf_32 : stf Try.prog 32 = some [(0, 1), (1, 1)] := by kernel_rfl
theorem arr_32 : arr Try.prog 32 = none := by kernel_rfl
theorem apf_32 : apf Try.prog 32 = some (2, 16) := by kernel_rfl
theorem tyc_33 : tyc Try.prog 33 = some (true, 2) := by kernel_rfl
theorem zer_33 : zer Try.prog 33 = some [Go.Value.int Go.IntKind.i64 0, Go.Value.int Go.IntKind.i64 0] := by kernel_rfl
theorem fld_33_0 : fld Try.prog 33 0 = some (0, 3) := by kernel_rfl
theorem fld_33_1 : fld Try.prog 33 1 = some (1, 3) := by kernel_rfl
theorem stf_33 : stf Try.prog 33 = some [(0, 1), (1, 1)] := by kernel_rfl
theorem arr_33 : arr Try.prog 33 = none := by kernel_rfl
theorem apf_33 : apf Try.prog 33 = some (2, 16) := by kernel_rfl
theorem tyc_34 : tyc Try.prog 34 = some (false, 1) := by kernel_rfl
theorem zer_34 : zer Try.prog 34 = some [Go.Value.int Go.IntKind.i64 0] := by kernel_rfl
theorem und_34 : Try.prog.underlying 34 = some (.int .i64) := by kernel_rfl
theorem apf_34 : apf Try.prog 34 = some (1, 8) := by kernel_rfl
theorem tyc_40 : tyc Try.prog 40 = some (true, 2) := by kernel_rfl
theorem zer_40 : zer Try.prog 40 = some [Go.Value.int Go.IntKind.i64 0, Go.Value.int Go.IntKind.i64 0] := by kernel_rfl
theorem fld_40_0 : fld Try.prog 40 0 = some (0, 3) := by kernel_rfl
theorem fld_40_1 : fld Try.prog 40 1 = some (1, 3) := by kernel_rfl
theorem stf_40 : stf Try.prog 40 = some [(0, 1), (1, 1)] := by kernel_rfl
theorem arr_40 : arr Try.prog 40 = none := by kernel_rfl
theorem apf_40 : apf Try.prog 40 = some (2, 16) := by kernel_rfl
theorem tyc_41 : tyc Try.prog 41 = some (true, 2) := by kernel_rfl
theorem zer_41 : zer Try.prog 41 = some [Go.Value.int Go.IntKind.i64 0, Go.Value.int Go.IntKind.i64 0] := by kernel_rfl
theorem fld_41_0 : fld Try.prog 41 0 = some (0, 3) := by kernel_rfl
theorem fld_41_1 : fld Try.prog 41 1 = some (1, 3) := by kernel_rfl
theorem stf_41 : stf Try.prog 41 = some [(0, 1), (1, 1)] := by kernel_rfl
theorem arr_41 : arr Try.prog 41 = none := by kernel_rfl
theorem apf_41 : apf Try.prog 41 = some (2, 16) := by kernel_rfl
theorem tyc_44 : tyc Try.prog 44 = some (true, 2) := by kernel_rfl
theorem zer_44 : zer Try.prog 44 = some [Go.Value.int Go.IntKind.i64 0, Go.Value.int Go.IntKind.i64 0] := by kernel_rfl
theorem fld_44_0 : fld Try.prog 44 0 = some (0, 27) := by kernel_rfl
theorem stf_44 : stf Try.prog 44 = some [(0, 2)] := by kernel_rfl
theorem arr_44 : arr Try.prog 44 = none := by kernel_rfl
theorem apf_44 : apf Try.prog 44 = some (2, 16) := by kernel_rfl
theorem tyc_45 : tyc Try.prog 45 = some (true, 2) := by kernel_rfl
theorem zer_45 : zer Try.prog 45 = some [Go.Value.int Go.IntKind.i64 0, Go.Value.int Go.IntKind.i64 0] := by kernel_rfl
theorem fld_45_0 : fld Try.prog 45 0 = some (0, 27) := by kernel_rfl
theorem stf_45 : stf Try.prog 45 = some [(0, 2)] := by kernel_rfl
theorem arr_45 : arr Try.prog 45 = none := by kernel_rfl
theorem apf_45 : apf Try.prog 45 = some (2, 16) := by kernel_rfl
theorem tyc_49 : tyc Try.prog 49 = some (true, 3) := by kernel_rfl
theorem zer_49 : zer Try.prog 49 = some [Go.Value.int Go.IntKind.i64 0, Go.Value.int Go.IntKind.i64 0, Go.Value.int Go.IntKind.i64 0] := by kernel_rfl
theorem fld_49_0 : fld Try.prog 49 0 = some (0, 3) := by kernel_rfl
theorem fld_49_1 : fld Try.prog 49 1 = some (1, 3) := by kernel_rfl
theorem fld_49_2 : fld Try.prog 49 2 = some (2, 3) := by kernel_rfl
theorem stf_49 : stf Try.prog 49 = some [(0, 1), (1, 1), (2, 1)] := by kernel_rfl
theorem arr_49 : arr Try.prog 49 = none := by kernel_rfl
theorem apf_49 : apf Try.prog 49 = some (3, 24) := by kernel_rfl
theorem tyc_50 : tyc Try.prog 50 = some (true, 3) := by kernel_rfl
theorem zer_50 : zer Try.prog 50 = some [Go.Value.int Go.IntKind.i64 0, Go.Value.int Go.IntKind.i64 0, Go.Value.int Go.IntKind.i64 0] := by kernel_rfl
theorem fld_50_0 : fld Try.prog 50 0 = some (0, 3) := by kernel_rfl
theorem fld_50_1 : fld Try.prog 50 1 = some (1, 3) := by kernel_rfl
theorem fld_50_2 : fld Try.prog 50 2 = some (2, 3) := by kernel_rfl
theorem stf_50 : stf Try.prog 50 = some [(0, 1), (1, 1), (2, 1)] := by kernel_rfl
theorem arr_50 : arr Try.prog 50 = none := by kernel_rfl
theorem apf_50 : apf Try.prog 50 = some (3, 24) := by kernel_rfl
theorem tyc_51 : tyc Try.prog 51 = some (false, 1) := by kernel_rfl
theorem zer_51 : zer Try.prog 51 = some [Go.Value.slice none 0 0] := by kernel_rfl
theorem elt_51 : elt Try.prog 51 = some (3, 1) := by kernel_rfl
theorem apf_51 : apf Try.prog 51 = some (1, 24) := by kernel_rfl
theorem tyc_57 : tyc Try.prog 57 = some (true, 3) := by kernel_rfl
theorem zer_57 : zer Try.prog 57 = some [Go.Value.slice none 0 0, Go.Value.int Go.IntKind.i64 0, Go.Value.int Go.IntKind.i64 0] := by kernel_rfl
theorem fld_57_0 : fld Try.prog 57 0 = some (0, 30) := by kernel_rfl
theorem stf_57 : stf Try.prog 57 = some [(0, 3)] := by kernel_rfl
theorem arr_57 : arr Try.prog 57 = none := by kernel_rfl
theorem apf_57 : apf Try.prog 57 = some (3, 40) := by kernel_rfl
theorem tyc_58 : tyc Try.prog 58 = some (true, 3) := by kernel_rfl
theorem zer_58 : zer Try.prog 58 = some [Go.Value.slice none 0 0, Go.Value.int Go.IntKind.i64 0, Go.Value.int Go.IntKind.i64 0] := by kernel_rfl
theorem fld_58_0 : fld Try.prog 58 0 = some (0, 30) := by kernel_rfl
theorem stf_58 : stf Try.prog 58 = some [(0, 3)] := by kernel_rfl
theorem arr_58 : arr Try.prog 58 = none := by kernel_rfl
theorem apf_58 : apf Try.prog 58 = some (3, 40) := by kernel_rfl
theorem tyc_66 : tyc Try.prog 66 = some (true, 4) := by kernel_rfl
theorem zer_66 : zer Try.prog 66 = some [Go.Value.pointer none, Go.Value.pointer none, Go.Value.pointer none, Go.Value.string { data := #[] }] := by kernel_rfl
theorem fld_66_0 : fld Try.prog 66 0 = some (0, 17) := by kernel_rfl
theorem fld_66_1 : fld Try.prog 66 1 = some (1, 17) := by kernel_rfl
theorem fld_66_2 : fld Try.prog 66 2 = some (2, 17) := by kernel_rfl
theorem fld_66_3 : fld Try.prog 66 3 = some (3, 9) := by kernel_rfl
theorem stf_66 : stf Try.prog 66 = some [(0, 1), (1, 1), (2, 1), (3, 1)] := by kernel_rfl
theorem arr_66 : arr Try.prog 66 = none := by kernel_rfl
theorem apf_66 : apf Try.prog 66 = some (4, 40) := by kernel_rfl
theorem tyc_67 : tyc Try.prog 67 = some (true, 4) := by kernel_rfl
theorem zer_67 : zer Try.prog 67 = some [Go.Value.pointer none, Go.Value.pointer none, Go.Value.pointer none, Go.Value.string { data := #[] }] := by kernel_rfl
theorem fld_67_0 : fld Try.prog 67 0 = some (0, 17) := by kernel_rfl
theorem fld_67_1 : fld Try.prog 67 1 = some (1, 17) := by kernel_rfl
theorem fld_67_2 : fld Try.prog 67 2 = some (2, 17) := by kernel_rfl
theorem fld_67_3 : fld Try.prog 67 3 = some (3, 9) := by kernel_rfl
theorem stf_67 : stf Try.prog 67 = some [(0, 1), (1, 1), (2, 1), (3, 1)] := by kernel_rfl
theorem arr_67 : arr Try.prog 67 = none := by kernel_rfl
theorem apf_67 : apf Try.prog 67 = some (4, 40) := by kernel_rfl
theorem tyc_68 : tyc Try.prog 68 = some (true, 0) := by kernel_rfl
theorem zer_68 : zer Try.prog 68 = some [] := by kernel_rfl
theorem arr_68 : arr Try.prog 68 = some (0, 16, 1) := by kernel_rfl
theorem stf_68 : stf Try.prog 68 = none := by kernel_rfl
theorem tyc_69 : tyc Try.prog 69 = some (true, 0) := by kernel_rfl
theorem zer_69 : zer Try.prog 69 = some [] := by kernel_rfl
theorem stf_69 : stf Try.prog 69 = some [(0, 0)] := by kernel_rfl
theorem arr_69 : arr Try.prog 69 = none := by kernel_rfl
theorem tyc_70 : tyc Try.prog 70 = some (true, 0) := by kernel_rfl
theorem zer_70 : zer Try.prog 70 = some [] := by kernel_rfl
theorem stf_70 : stf Try.prog 70 = some [(0, 0)] := by kernel_rfl
theorem arr_70 : arr Try.prog 70 = none := by kernel_rfl
theorem tyc_72 : tyc Try.prog 72 = some (false, 1) := by kernel_rfl
theorem zer_72 : zer Try.prog 72 = some [Go.Value.int Go.IntKind.u32 0] := by kernel_rfl
theorem und_72 : Try.prog.underlying 72 = some (.int .u32) := by kernel_rfl
theorem apf_72 : apf Try.prog 72 = some (1, 4) := by kernel_rfl
theorem tyc_73 : tyc Try.prog 73 = some (false, 1) := by kernel_rfl
theorem zer_73 : zer Try.prog 73 = some [Go.Value.int Go.IntKind.u8 0] := by kernel_rfl
theorem und_73 : Try.prog.underlying 73 = some (.int .u8) := by kernel_rfl
theorem apf_73 : apf Try.prog 73 = some (1, 1) := by kernel_rfl
theorem tyc_74 : tyc Try.prog 74 = some (false, 1) := by kernel_rfl
theorem zer_74 : zer Try.prog 74 = some [Go.Value.int Go.IntKind.u8 0] := by kernel_rfl
theorem und_74 : Try.prog.underlying 74 = some (.int .u8) := by kernel_rfl
theorem apf_74 : apf Try.prog 74 = some (1, 1) := by kernel_rfl
theorem tyc_76 : tyc Try.prog 76 = some (false, 1) := by kernel_rfl
theorem zer_76 : zer Try.prog 76 = some [Go.Value.pointer none] := by kernel_rfl
theorem apf_76 : apf Try.prog 76 = some (1, 8) := by kernel_rfl
theorem tyc_77 : tyc Try.prog 77 = some (false, 1) := by kernel_rfl
theorem zer_77 : zer Try.prog 77 = some [Go.Value.int Go.IntKind.i32 0] := by kernel_rfl
theorem und_77 : Try.prog.underlying 77 = some (.int .i32) := by kernel_rfl
theorem apf_77 : apf Try.prog 77 = some (1, 4) := by kernel_rfl
theorem tyc_78 : tyc Try.prog 78 = some (false, 1) := by kernel_rfl
theorem zer_78 : zer Try.prog 78 = some [Go.Value.int Go.IntKind.i32 0] := by kernel_rfl
theorem und_78 : Try.prog.underlying 78 = some (.int .i32) := by kernel_rfl
theorem apf_78 : apf Try.prog 78 = some (1, 4) := by kernel_rfl
theorem tyc_79 : tyc Try.prog 79 = some (true, 11) := by kernel_rfl
theorem zer_79 : zer Try.prog 79 = some [Go.Value.int Go.IntKind.u64 0, Go.Value.int Go.IntKind.u64 0, Go.Value.int Go.IntKind.u32 0, Go.Value.int Go.IntKind.u8 0, Go.Value.int Go.IntKind.u8 0, Go.Value.int Go.IntKind.u8 0, Go.Value.int Go.IntKind.u8 0, Go.Value.nilFunc, Go.Value.pointer none, Go.Value.int Go.IntKind.i32 0, Go.Value.int Go.IntKind.i32 0] := by kernel_rfl
theorem fld_79_0 : fld Try.prog 79 0 = some (0, 12) := by kernel_rfl
theorem fld_79_1 : fld Try.prog 79 1 = some (1, 12) := by kernel_rfl
theorem fld_79_2 : fld Try.prog 79 2 = some (2, 72) := by kernel_rfl
theorem fld_79_3 : fld Try.prog 79 3 = some (3, 73) := by kernel_rfl
theorem fld_79_4 : fld Try.prog 79 4 = some (4, 5) := by kernel_rfl
theorem fld_79_5 : fld Try.prog 79 5 = some (5, 5) := by kernel_rfl
theorem fld_79_6 : fld Try.prog 79 6 = some (6, 74) := by kernel_rfl
theorem fld_79_7 : fld Try.prog 79 7 = some (7, 75) := by kernel_rfl
theorem fld_79_8 : fld Try.prog 79 8 = some (8, 76) := by kernel_rfl
theorem fld_79_9 : fld Try.prog 79 9 = some (9, 77) := by kernel_rfl
theorem fld_79_10 : fld Try.prog 79 10 = some (10, 78) := by kernel_rfl
theorem stf_79 : stf Try.prog 79 = some [(0, 1), (1, 1), (2, 1), (3, 1), (4, 1), (5, 1), (6, 1), (7, 1), (8, 1), (9, 1), (10, 1)] := by kernel_rfl
theorem arr_79 : arr Try.prog 79 = none := by kernel_rfl
theorem apf_79 : apf Try.prog 79 = some (11, 48) := by kernel_rfl
theorem tyc_80 : tyc Try.prog 80 = some (true, 11) := by kernel_rfl
theorem zer_80 : zer Try.prog 80 = some [Go.Value.int Go.IntKind.u64 0, Go.Value.int Go.IntKind.u64 0, Go.Value.int Go.IntKind.u32 0, Go.Value.int Go.IntKind.u8 0, Go.Value.int Go.IntKind.u8 0, Go.Value.int Go.IntKind.u8 0, Go.Value.int Go.IntKind.u8 0, Go.Value.nilFunc, Go.Value.pointer none, Go.Value.int Go.IntKind.i32 0, Go.Value.int Go.IntKind.i32 0] := by kernel_rfl
theorem fld_80_0 : fld Try.prog 80 0 = some (0, 12) := by kernel_rfl
theorem fld_80_1 : fld Try.prog 80 1 = some (1, 12) := by kernel_rfl
theorem fld_80_2 : fld Try.prog 80 2 = some (2, 72) := by kernel_rfl
theorem fld_80_3 : fld Try.prog 80 3 = some (3, 73) := by kernel_rfl
theorem fld_80_4 : fld Try.prog 80 4 = some (4, 5) := by kernel_rfl
theorem fld_80_5 : fld Try.prog 80 5 = some (5, 5) := by kernel_rfl
theorem fld_80_6 : fld Try.prog 80 6 = some (6, 74) := by kernel_rfl
theorem fld_80_7 : fld Try.prog 80 7 = some (7, 75) := by kernel_rfl
theorem fld_80_8 : fld Try.prog 80 8 = some (8, 76) := by kernel_rfl
theorem fld_80_9 : fld Try.prog 80 9 = some (9, 77) := by kernel_rfl
theorem fld_80_10 : fld Try.prog 80 10 = some (10, 78) := by kernel_rfl
theorem stf_80 : stf Try.prog 80 = some [(0, 1), (1, 1), (2, 1), (3, 1), (4, 1), (5, 1), (6, 1), (7, 1), (8, 1), (9, 1), (10, 1)] := by kernel_rfl
theorem arr_80 : arr Try.prog 80 = none := by kernel_rfl
theorem apf_80 : apf Try.prog 80 = some (11, 48) := by kernel_rfl
theorem fun_0 : Try.prog.funcs[0]? = some Try.f0 := by kernel_rfl
theorem fun_1 : Try.prog.funcs[1]? = some Try.f1 := by kernel_rfl
theorem fun_2 : Try.prog.funcs[2]? = some Try.f2 := by kernel_rfl
theorem fun_3 : Try.prog.funcs[3]? = some Try.f3 := by kernel_rfl
theorem fun_4 : Try.prog.funcs[4]? = some Try.f4 := by kernel_rfl
theorem fun_5 : Try.prog.funcs[5]? = some Try.f5 := by kernel_rfl
theorem fun_6 : Try.prog.funcs[6]? = some Try.f6 := by kernel_rfl
theorem fun_7 : Try.prog.funcs[7]? = some Try.f7 := by kernel_rfl
theorem fun_8 : Try.prog.funcs[8]? = some Try.f8 := by kernel_rfl
theorem fun_9 : Try.prog.funcs[9]? = some Try.f9 := by kernel_rfl
theorem fun_10 : Try.prog.funcs[10]? = some Try.f10 := by kernel_rfl
theorem fun_11 : Try.prog.funcs[11]? = some Try.f11 := by kernel_rfl
theorem fun_12 : Try.prog.funcs[12]? = some Try.f12 := by kernel_rfl
theorem fun_13 : Try.prog.funcs[13]? = some Try.f13 := by kernel_rfl
theorem fun_14 : Try.prog.funcs[14]? = some Try.f14 := by kernel_rfl
theorem fun_15 : Try.prog.funcs[15]? = some Try.f15 := by kernel_rfl
theorem fun_16 : Try.prog.funcs[16]? = some Try.f16 := by kernel_rfl
theorem fun_17 : Try.prog.funcs[17]? = some Try.f17 := by kernel_rfl
theorem fun_18 : Try.prog.funcs[18]? = some Try.f18 := by kernel_rfl
theorem fun_19 : Try.prog.funcs[19]? = some Try.f19 := by kernel_rfl
theorem fun_20 : Try.prog.funcs[20]? = some Try.f20 := by kernel_rfl
theorem fun_21 : Try.prog.funcs[21]? = some Try.f21 := by kernel_rfl
theorem fun_22 : Try.prog.funcs[22]? = some Try.f22 := by kernel_rfl
theorem fun_23 : Try.prog.funcs[23]? = some Try.f23 := by kernel_rfl
theorem fun_24 : Try.prog.funcs[24]? = some Try.f24 := by kernel_rfl
theorem fun_25 : Try.prog.funcs[25]? = some Try.f25 := by kernel_rfl
theorem fun_26 : Try.prog.funcs[26]? = some Try.f26 := by kernel_rfl
theorem fun_27 : Try.prog.funcs[27]? = some Try.f27 := by kernel_rfl
theorem fun_28 : Try.prog.funcs[28]? = some Try.f28 := by kernel_rfl
theorem fun_29 : Try.prog.funcs[29]? = some Try.f29 := by kernel_rfl
theorem fun_30 : Try.prog.funcs[30]? = some Try.f30 := by kernel_rfl
theorem fun_31 : Try.prog.funcs[31]? = some Try.f31 := by kernel_rfl
theorem fun_32 : Try.prog.funcs[32]? = some Try.f32 := by kernel_rfl
theorem fun_33 : Try.prog.funcs[33]? = some Try.f33 := by kernel_rfl
theorem fun_34 : Try.prog.funcs[34]? = some Try.f34 := by kernel_rfl
theorem fun_35 : Try.prog.funcs[35]? = some Try.f35 := by kernel_rfl
theorem fun_36 : Try.prog.funcs[36]? = some Try.f36 := by kernel_rfl
theorem fun_37 : Try.prog.funcs[37]? = some Try.f37 := by kernel_rfl
theorem fun_38 : Try.prog.funcs[38]? = some Try.f38 := by kernel_rfl
end Go.Proofs.Ytoppfeepaafeeaa.Ab
