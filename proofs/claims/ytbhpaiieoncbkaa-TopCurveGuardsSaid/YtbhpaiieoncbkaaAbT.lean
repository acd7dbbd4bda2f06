/- Facts of the seat: its types and its functions, by number. -/
import Derived.Test.YtbhpaiieoncbkaaAbP
import Derived.Test.YtbhpaiieoncbkaaProg
import Derived.KernelRfl
namespace Go.Proofs.Ytbhpaiieoncbkaa.Ab
open Go Go.RowKit
theorem tyc_2 : tyc Try.prog 2 = some (false, 1) := by kernel_rfl
theorem zer_2 : zer Try.prog 2 = some [Go.Value.int Go.IntKind.i64 0] := by kernel_rfl
theorem und_2 : Try.prog.underlying 2 = some (.int .i64) := by kernel_rfl
theorem apf_2 : apf Try.prog 2 = some (1, 8) := by kernel_rfl
theorem tyc_3 : tyc Try.prog 3 = some (false, 1) := by kernel_rfl
theorem zer_3 : zer Try.prog 3 = some [Go.Value.int Go.IntKind.i64 0] := by kernel_rfl
theorem und_3 : Try.prog.underlying 3 = some (.int .i64) := by kernel_rfl
theorem apf_3 : apf Try.prog 3 = some (1, 8) := by kernel_rfl
theorem tyc_4 : tyc Try.prog 4 = some (false, 1) := by kernel_rfl
theorem zer_4 : zer Try.prog 4 = some [Go.Value.bool false] := by kernel_rfl
theorem und_4 : Try.prog.underlying 4 = some .bool := by kernel_rfl
theorem apf_4 : apf Try.prog 4 = some (1, 1) := by kernel_rfl
theorem tyc_5 : tyc Try.prog 5 = some (false, 1) := by kernel_rfl
theorem zer_5 : zer Try.prog 5 = some [Go.Value.int Go.IntKind.u8 0] := by kernel_rfl
theorem und_5 : Try.prog.underlying 5 = some (.int .u8) := by kernel_rfl
theorem apf_5 : apf Try.prog 5 = some (1, 1) := by kernel_rfl
theorem tyc_6 : tyc Try.prog 6 = some (false, 1) := by kernel_rfl
theorem zer_6 : zer Try.prog 6 = some [Go.Value.int Go.IntKind.u8 0] := by kernel_rfl
theorem und_6 : Try.prog.underlying 6 = some (.int .u8) := by kernel_rfl
theorem apf_6 : apf Try.prog 6 = some (1, 1) := by kernel_rfl
theorem tyc_7 : tyc Try.prog 7 = some (true, 4) := by kernel_rfl
theorem zer_7 : zer Try.prog 7 = some [Go.Value.int Go.IntKind.i64 0, Go.Value.int Go.IntKind.i64 0, Go.Value.bool false, Go.Value.int Go.IntKind.u8 0] := by kernel_rfl
theorem fld_7_0 : fld Try.prog 7 0 = some (0, 2) := by kernel_rfl
theorem fld_7_1 : fld Try.prog 7 1 = some (1, 3) := by kernel_rfl
theorem fld_7_2 : fld Try.prog 7 2 = some (2, 4) := by kernel_rfl
theorem fld_7_3 : fld Try.prog 7 3 = some (3, 6) := by kernel_rfl
theorem stf_7 : stf Try.prog 7 = some [(0, 1), (1, 1), (2, 1), (3, 1)] := by kernel_rfl
theorem arr_7 : arr Try.prog 7 = none := by kernel_rfl
theorem apf_7 : apf Try.prog 7 = some (4, 24) := by kernel_rfl
theorem tyc_8 : tyc Try.prog 8 = some (true, 4) := by kernel_rfl
theorem zer_8 : zer Try.prog 8 = some [Go.Value.int Go.IntKind.i64 0, Go.Value.int Go.IntKind.i64 0, Go.Value.bool false, Go.Value.int Go.IntKind.u8 0] := by kernel_rfl
theorem fld_8_0 : fld Try.prog 8 0 = some (0, 2) := by kernel_rfl
theorem fld_8_1 : fld Try.prog 8 1 = some (1, 3) := by kernel_rfl
theorem fld_8_2 : fld Try.prog 8 2 = some (2, 4) := by kernel_rfl
theorem fld_8_3 : fld Try.prog 8 3 = some (3, 6) := by kernel_rfl
theorem stf_8 : stf Try.prog 8 = some [(0, 1), (1, 1), (2, 1), (3, 1)] := by kernel_rfl
theorem arr_8 : arr Try.prog 8 = none := by kernel_rfl
theorem apf_8 : apf Try.prog 8 = some (4, 24) := by kernel_rfl
theorem tyc_9 : tyc Try.prog 9 = some (false, 1) := by kernel_rfl
theorem zer_9 : zer Try.prog 9 = some [Go.Value.string { data := #[] }] := by kernel_rfl
theorem apf_9 : apf Try.prog 9 = some (1, 16) := by kernel_rfl
theorem tyc_10 : tyc Try.prog 10 = some (false, 1) := by kernel_rfl
theorem zer_10 : zer Try.prog 10 = some [Go.Value.string { data := #[] }] := by kernel_rfl
theorem apf_10 : apf Try.prog 10 = some (1, 16) := by kernel_rfl
theorem tyc_11 : tyc Try.prog 11 = some (false, 1) := by kernel_rfl
theorem zer_11 : zer Try.prog 11 = some [Go.Value.string { data := #[] }] := by kernel_rfl
theorem apf_11 : apf Try.prog 11 = some (1, 16) := by kernel_rfl
theorem tyc_12 : tyc Try.prog 12 = some (false, 1) := by kernel_rfl
theorem zer_12 : zer Try.prog 12 = some [Go.Value.int Go.IntKind.u64 0] := by kernel_rfl
theorem und_12 : Try.prog.underlying 12 = some (.int .u64) := by kernel_rfl
theorem apf_12 : apf Try.prog 12 = some (1, 8) := by kernel_rfl
theorem tyc_13 : tyc Try.prog 13 = some (true, 2) := by kernel_rfl
theorem zer_13 : zer Try.prog 13 = some [Go.Value.string { data := #[] }, Go.Value.int Go.IntKind.u64 0] := by kernel_rfl
theorem fld_13_0 : fld Try.prog 13 0 = some (0, 9) := by kernel_rfl
theorem fld_13_1 : fld Try.prog 13 1 = some (1, 12) := by kernel_rfl
theorem stf_13 : stf Try.prog 13 = some [(0, 1), (1, 1)] := by kernel_rfl
theorem arr_13 : arr Try.prog 13 = none := by kernel_rfl
theorem apf_13 : apf Try.prog 13 = some (2, 24) := by kernel_rfl
theorem tyc_14 : tyc Try.prog 14 = some (true, 2) := by kernel_rfl
theorem zer_14 : zer Try.prog 14 = some [Go.Value.string { data := #[] }, Go.Value.int Go.IntKind.u64 0] := by kernel_rfl
theorem fld_14_0 : fld Try.prog 14 0 = some (0, 9) := by kernel_rfl
theorem fld_14_1 : fld Try.prog 14 1 = some (1, 12) := by kernel_rfl
theorem stf_14 : stf Try.prog 14 = some [(0, 1), (1, 1)] := by kernel_rfl
theorem arr_14 : arr Try.prog 14 = none := by kernel_rfl
theorem apf_14 : apf Try.prog 14 = some (2, 24) := by kernel_rfl
theorem tyc_15 : tyc Try.prog 15 = some (false, 1) := by kernel_rfl
theorem zer_15 : zer Try.prog 15 = some [Go.Value.pointer none] := by kernel_rfl
theorem apf_15 : apf Try.prog 15 = some (1, 8) := by kernel_rfl
theorem tyc_16 : tyc Try.prog 16 = some (false, 1) := by kernel_rfl
theorem zer_16 : zer Try.prog 16 = some [Go.Value.pointer none] := by kernel_rfl
theorem apf_16 : apf Try.prog 16 = some (1, 8) := by kernel_rfl
theorem tyc_17 : tyc Try.prog 17 = some (false, 1) := by kernel_rfl
theorem zer_17 : zer Try.prog 17 = some [Go.Value.pointer none] := by kernel_rfl
theorem apf_17 : apf Try.prog 17 = some (1, 8) := by kernel_rfl
theorem tyc_18 : tyc Try.prog 18 = some (true, 1) := by kernel_rfl
theorem zer_18 : zer Try.prog 18 = some [Go.Value.pointer none] := by kernel_rfl
theorem fld_18_0 : fld Try.prog 18 0 = some (0, 17) := by kernel_rfl
theorem stf_18 : stf Try.prog 18 = some [(0, 1)] := by kernel_rfl
theorem arr_18 : arr Try.prog 18 = none := by kernel_rfl
theorem apf_18 : apf Try.prog 18 = some (1, 8) := by kernel_rfl
theorem tyc_19 : tyc Try.prog 19 = some (true, 1) := by kernel_rfl
theorem zer_19 : zer Try.prog 19 = some [Go.Value.pointer none] := by kernel_rfl
theorem fld_19_0 : fld Try.prog 19 0 = some (0, 17) := by kernel_rfl
theorem stf_19 : stf Try.prog 19 = some [(0, 1)] := by kernel_rfl
theorem arr_19 : arr Try.prog 19 = none := by kernel_rfl
theorem apf_19 : apf Try.prog 19 = some (1, 8) := by kernel_rfl
theorem tyc_21 : tyc Try.prog 21 = some (false, 1) := by kernel_rfl
theorem zer_21 : zer Try.prog 21 = some [Go.Value.int Go.IntKind.i32 0] := by kernel_rfl
theorem und_21 : Try.prog.underlying 21 = some (.int .i32) := by kernel_rfl
theorem apf_21 : apf Try.prog 21 = some (1, 4) := by kernel_rfl
theorem tyc_22 : tyc Try.prog 22 = some (false, 1) := by kernel_rfl
theorem zer_22 : zer Try.prog 22 = some [Go.Value.slice none 0 0] := by kernel_rfl
theorem elt_22 : elt Try.prog 22 = some (5, 1) := by kernel_rfl
theorem apf_22 : apf Try.prog 22 = some (1, 24) := by kernel_rfl
theorem tyc_23 : tyc Try.prog 23 = some (true, 2) := by kernel_rfl
theorem zer_23 : zer Try.prog 23 = some [Go.Value.int Go.IntKind.u8 0, Go.Value.int Go.IntKind.u8 0] := by kernel_rfl
theorem arr_23 : arr Try.prog 23 = some (2, 5, 1) := by kernel_rfl
theorem stf_23 : stf Try.prog 23 = none := by kernel_rfl
theorem apf_23 : apf Try.prog 23 = some (2, 2) := by kernel_rfl
theorem tyc_24 : tyc Try.prog 24 = some (false, 1) := by kernel_rfl
theorem zer_24 : zer Try.prog 24 = some [Go.Value.slice none 0 0] := by kernel_rfl
theorem elt_24 : elt Try.prog 24 = some (33, 2) := by kernel_rfl
theorem apf_24 : apf Try.prog 24 = some (1, 24) := by kernel_rfl
theorem tyc_25 : tyc Try.prog 25 = some (false, 1) := by kernel_rfl
theorem zer_25 : zer Try.prog 25 = some [Go.Value.slice none 0 0] := by kernel_rfl
theorem elt_25 : elt Try.prog 25 = some (63, 6) := by kernel_rfl
theorem apf_25 : apf Try.prog 25 = some (1, 24) := by kernel_rfl
theorem tyc_26 : tyc Try.prog 26 = some (true, 4) := by kernel_rfl
theorem zer_26 : zer Try.prog 26 = some [Go.Value.slice none 0 0, Go.Value.slice none 0 0, Go.Value.int Go.IntKind.i64 0, Go.Value.slice none 0 0] := by kernel_rfl
theorem fld_26_0 : fld Try.prog 26 0 = some (0, 24) := by kernel_rfl
theorem fld_26_1 : fld Try.prog 26 1 = some (1, 24) := by kernel_rfl
theorem fld_26_2 : fld Try.prog 26 2 = some (2, 3) := by kernel_rfl
theorem fld_26_3 : fld Try.prog 26 3 = some (3, 25) := by kernel_rfl
theorem stf_26 : stf Try.prog 26 = some [(0, 1), (1, 1), (2, 1), (3, 1)] := by kernel_rfl
theorem arr_26 : arr Try.prog 26 = none := by kernel_rfl
theorem apf_26 : apf Try.prog 26 = some (4, 80) := by kernel_rfl
theorem tyc_27 : tyc Try.prog 27 = some (true, 4) := by kernel_rfl
theorem zer_27 : zer Try.prog 27 = some [Go.Value.slice none 0 0, Go.Value.slice none 0 0, Go.Value.int Go.IntKind.i64 0, Go.Value.slice none 0 0] := by kernel_rfl
theorem fld_27_0 : fld Try.prog 27 0 = some (0, 24) := by kernel_rfl
theorem fld_27_1 : fld Try.prog 27 1 = some (1, 24) := by kernel_rfl
theorem fld_27_2 : fld Try.prog 27 2 = some (2, 3) := by kernel_rfl
theorem fld_27_3 : fld Try.prog 27 3 = some (3, 25) := by kernel_rfl
theorem stf_27 : stf Try.prog 27 = some [(0, 1), (1, 1), (2, 1), (3, 1)] := by kernel_rfl
theorem arr_27 : arr Try.prog 27 = none := by kernel_rfl
theorem apf_27 : apf Try.prog 27 = some (4, 80) := by kernel_rfl
theorem tyc_28 : tyc Try.prog 28 = some (false, 1) := by kernel_rfl
theorem zer_28 : zer Try.prog 28 = some [Go.Value.slice none 0 0] := by kernel_rfl
theorem elt_28 : elt Try.prog 28 = some (3, 1) := by kernel_rfl
theorem apf_28 : apf Try.prog 28 = some (1, 24) := by kernel_rfl
theorem tyc_29 : tyc Try.prog 29 = some (true, 2) := by kernel_rfl
theorem zer_29 : zer Try.prog 29 = some [Go.Value.int Go.IntKind.i64 0, Go.Value.slice none 0 0] := by kernel_rfl
theorem fld_29_0 : fld Try.prog 29 0 = some (0, 3) := by kernel_rfl
theorem fld_29_1 : fld Try.prog 29 1 = some (1, 28) := by kernel_rfl
theorem stf_29 : stf Try.prog 29 = some [(0, 1), (1, 1)] := by kernel_rfl
theorem arr_29 : arr Try.prog 29 = none := by kernel_rfl
theorem apf_29 : apf Try.prog 29 = some (2, 32) := by kernel_rfl
theorem tyc_30 : tyc Try.prog 30 = some (true, 2) := by kernel_rfl
theorem zer_30 : zer Try.prog 30 = some [Go.Value.int Go.IntKind.i64 0, Go.Value.slice none 0 0] := by kernel_rfl
theorem fld_30_0 : fld Try.prog 30 0 = some (0, 3) := by kernel_rfl
theorem fld_30_1 : fld Try.prog 30 1 = some (1, 28) := by kernel_rfl
theorem stf_30 : stf Try.prog 30 = some [(0, 1), (1, 1)] := by kernel_rfl
theorem arr_30 : arr Try.prog 30 = none := by kernel_rfl
theorem apf_30 : apf Try.prog 30 = some (2, 32) := by kernel_rfl
theorem tyc_32 : tyc Try.prog 32 = some (true, 2) := by kernel_rfl
theorem zer_32 : zer Try.prog 32 = some [Go.Value.int Go.IntKind.i64 0, Go.Value.int Go.IntKind.i64 0] := by kernel_rfl
theorem fld_32_0 : fld Try.prog 32 0 = some (0, 3) := by kernel_rfl
theorem fld_32_1 : fld Try.prog 32 1 = some (1, 3) := by kernel_rfl
theorem stf_32 : stf Try.prog 32 = some [(0, 1), (1, 1)] := by kernel_rfl
theorem arr_32 : arr Try.prog 32 = none := by kernel_rfl
theorem apf_32 : apf Try.prog 32 = some (2, 16) := by kernel_rfl
theorem tyc_33 : tyc Try.prog 33 = some (true, 2) := by kernel_rfl
theorem zer_33 : zer Try.prog 33 = some [Go.Value.int Go.IntKind.i64 0, Go.Value.int Go.IntKind.i64 0] := by kernel_rfl
theorem fld_33_0 : fld Try.prog 33 0 = some (0, 3) := by kernel_rfl
theorem fld_33_1 : fld Try.prog 33 1 = some (1, 3) := by kernel_rfl
theorem stf_33 : stf Try.prog 33 = some [(0, 1), (1, 1)] := by kernel_rfl
theorem arr_33 : arr Try.prog 33 = none := by kernel_rfl
theorem apf_33 : apf Try.prog 33 = some (2, 16) := by kernel_rfl
theorem tyc_35 : tyc Try.prog 35 = some (true, 4) := by kernel_rfl
theorem zer_35 : zer Try.prog 35 = some [Go.Value.int Go.IntKind.i64 0, Go.Value.int Go.IntKind.i64 0, Go.Value.int Go.IntKind.i64 0, Go.Value.int Go.IntKind.i64 0] := by kernel_rfl
theorem fld_35_0 : fld Try.prog 35 0 = some (0, 3) := by kernel_rfl
theorem fld_35_1 : fld Try.prog 35 1 = some (1, 3) := by kernel_rfl
theorem fld_35_2 : fld Try.prog 35 2 = some (2, 3) := by kernel_rfl
theorem fld_35_3 : fld Try.prog 35 3 = some (3, 3) := by kernel_rfl
theorem stf_35 : stf Try.prog 35 = some [(0, 1), (1, 1), (2, 1), (3, 1)] := by kernel_rfl
theorem arr_35 : arr Try.prog 35 = none := by kernel_rfl
theorem apf_35 : apf Try.prog 35 = some (4, 32) := by kernel_rfl
theorem tyc_36 : tyc Try.prog 36 = some (true, 4) := by kernel_rfl
theorem zer_36 : zer Try.prog 36 = some [Go.Value.int Go.IntKind.i64 0, Go.Value.int Go.IntKind.i64 0, Go.Value.int Go.IntKind.i64 0, Go.Value.int Go.IntKind.i64 0] := by kernel_rfl
theorem fld_36_0 : fld Try.prog 36 0 = some (0, 3) := by kernel_rfl
theorem fld_36_1 : fld Try.prog 36 1 = some (1, 3) := by kernel_rfl
theorem fld_36_2 : fld Try.prog 36 2 = some (2, 3) := by kernel_rfl
theorem fld_36_3 : fld Try.prog 36 3 = some (3, 3) := by kernel_rfl
theorem stf_36 : stf Try.prog 36 = some [(0, 1), (1, 1), (2, 1), (3, 1)] := by kernel_rfl
theorem arr_36 : arr Try.prog 36 = none := by kernel_rfl
theorem apf_36 : apf Try.prog 36 = some (4, 32) := by kernel_rfl
theorem tyc_37 : tyc Try.prog 37 = some (false, 1) := by kernel_rfl
theorem zer_37 : zer Try.prog 37 = some [Go.Value.int Go.IntKind.i64 0] := by kernel_rfl
theorem und_37 : Try.prog.underlying 37 = some (.int .i64) := by kernel_rfl
theorem apf_37 : apf Try.prog 37 = some (1, 8) := by kernel_rfl
theorem tyc_45 : tyc Try.prog 45 = some (true, 6) := by kernel_rfl
theorem zer_45 : zer Try.prog 45 = some [Go.Value.slice none 0 0, Go.Value.slice none 0 0, Go.Value.int Go.IntKind.i64 0, Go.Value.slice none 0 0, Go.Value.slice none 0 0, Go.Value.slice none 0 0] := by kernel_rfl
theorem fld_45_0 : fld Try.prog 45 0 = some (0, 27) := by kernel_rfl
theorem fld_45_1 : fld Try.prog 45 1 = some (4, 24) := by kernel_rfl
theorem fld_45_2 : fld Try.prog 45 2 = some (5, 24) := by kernel_rfl
theorem stf_45 : stf Try.prog 45 = some [(0, 4), (4, 1), (5, 1)] := by kernel_rfl
theorem arr_45 : arr Try.prog 45 = none := by kernel_rfl
theorem apf_45 : apf Try.prog 45 = some (6, 128) := by kernel_rfl
theorem tyc_46 : tyc Try.prog 46 = some (true, 6) := by kernel_rfl
theorem zer_46 : zer Try.prog 46 = some [Go.Value.slice none 0 0, Go.Value.slice none 0 0, Go.Value.int Go.IntKind.i64 0, Go.Value.slice none 0 0, Go.Value.slice none 0 0, Go.Value.slice none 0 0] := by kernel_rfl
theorem fld_46_0 : fld Try.prog 46 0 = some (0, 27) := by kernel_rfl
theorem fld_46_1 : fld Try.prog 46 1 = some (4, 24) := by kernel_rfl
theorem fld_46_2 : fld Try.prog 46 2 = some (5, 24) := by kernel_rfl
theorem stf_46 : stf Try.prog 46 = some [(0, 4), (4, 1), (5, 1)] := by kernel_rfl
theorem arr_46 : arr Try.prog 46 = none := by kernel_rfl
theorem apf_46 : apf Try.prog 46 = some (6, 128) := by kernel_rfl
theorem tyc_50 : tyc Try.prog 50 = some (true, 4) := by kernel_rfl
theorem zer_50 : zer Try.prog 50 = some [Go.Value.int Go.IntKind.i64 0, Go.Value.int Go.IntKind.i64 0, Go.Value.int Go.IntKind.i64 0, Go.Value.int Go.IntKind.i64 0] := by kernel_rfl
theorem fld_50_0 : fld Try.prog 50 0 = some (0, 36) := by kernel_rfl
theorem stf_50 : stf Try.prog 50 = some [(0, 4)] := by kernel_rfl
theorem arr_50 : arr Try.prog 50 = none := by kernel_rfl
theorem apf_50 : apf Try.prog 50 = some (4, 32) := by kernel_rfl
theorem tyc_51 : tyc Try.prog 51 = some (true, 4) := by kernel_rfl
theorem zer_51 : zer Try.prog 51 = some [Go.Value.int Go.IntKind.i64 0, Go.Value.int Go.IntKind.i64 0, Go.Value.int Go.IntKind.i64 0, Go.Value.int Go.IntKind.i64 0] := by kernel_rfl
theorem fld_51_0 : fld Try.prog 51 0 = some (0, 36) := by kernel_rfl
theorem stf_51 : stf Try.prog 51 = some [(0, 4)] := by kernel_rfl
theorem arr_51 : arr Try.prog 51 = none := by kernel_rfl
theorem apf_51 : apf Try.prog 51 = some (4, 32) := by kernel_rfl
theorem tyc_56 : tyc Try.prog 56 = some (false, 1) := by kernel_rfl
theorem zer_56 : zer Try.prog 56 = some [Go.Value.slice none 0 0] := by kernel_rfl
theorem elt_56 : elt Try.prog 56 = some (30, 2) := by kernel_rfl
theorem apf_56 : apf Try.prog 56 = some (1, 24) := by kernel_rfl
theorem tyc_62 : tyc Try.prog 62 = some (true, 6) := by kernel_rfl
theorem zer_62 : zer Try.prog 62 = some [Go.Value.int Go.IntKind.i64 0, Go.Value.int Go.IntKind.i64 0, Go.Value.int Go.IntKind.i64 0, Go.Value.int Go.IntKind.i64 0, Go.Value.int Go.IntKind.i64 0, Go.Value.int Go.IntKind.i64 0] := by kernel_rfl
theorem fld_62_0 : fld Try.prog 62 0 = some (0, 33) := by kernel_rfl
theorem fld_62_1 : fld Try.prog 62 1 = some (2, 33) := by kernel_rfl
theorem fld_62_2 : fld Try.prog 62 2 = some (4, 33) := by kernel_rfl
theorem stf_62 : stf Try.prog 62 = some [(0, 2), (2, 2), (4, 2)] := by kernel_rfl
theorem arr_62 : arr Try.prog 62 = none := by kernel_rfl
theorem apf_62 : apf Try.prog 62 = some (6, 48) := by kernel_rfl
theorem tyc_63 : tyc Try.prog 63 = some (true, 6) := by kernel_rfl
theorem zer_63 : zer Try.prog 63 = some [Go.Value.int Go.IntKind.i64 0, Go.Value.int Go.IntKind.i64 0, Go.Value.int Go.IntKind.i64 0, Go.Value.int Go.IntKind.i64 0, Go.Value.int Go.IntKind.i64 0, Go.Value.int Go.IntKind.i64 0] := by kernel_rfl
theorem fld_63_0 : fld Try.prog 63 0 = some (0, 33) := by kernel_rfl
theorem fld_63_1 : fld Try.prog 63 1 = some (2, 33) := by kernel_rfl
theorem fld_63_2 : fld Try.prog 63 2 = some (4, 33) := by kernel_rfl
theorem stf_63 : stf Try.prog 63 = some [(0, 2), (2, 2), (4, 2)] := by kernel_rfl
theorem arr_63 : arr Try.prog 63 = none := by kernel_rfl
theorem apf_63 : apf Try.prog 63 = some (6, 48) := by kernel_rfl
theorem tyc_78 : tyc Try.prog 78 = some (true, 4) := by kernel_rfl
theorem zer_78 : zer Try.prog 78 = some [Go.Value.pointer none, Go.Value.pointer none, Go.Value.pointer none, Go.Value.string { data := #[] }] := by kernel_rfl
theorem fld_78_0 : fld Try.prog 78 0 = some (0, 17) := by kernel_rfl
theorem fld_78_1 : fld Try.prog 78 1 = some (1, 17) := by kernel_rfl
theorem fld_78_2 : fld Try.prog 78 2 = some (2, 17) := by kernel_rfl
theorem fld_78_3 : fld Try.prog 78 3 = some (3, 9) := by kernel_rfl
theorem stf_78 : stf Try.prog 78 = some [(0, 1), (1, 1), (2, 1), (3, 1)] := by kernel_rfl
theorem arr_78 : arr Try.prog 78 = none := by kernel_rfl
theorem apf_78 : apf Try.prog 78 = some (4, 40) := by kernel_rfl
theorem tyc_79 : tyc Try.prog 79 = some (true, 4) := by kernel_rfl
theorem zer_79 : zer Try.prog 79 = some [Go.Value.pointer none, Go.Value.pointer none, Go.Value.pointer none, Go.Value.string { data := #[] }] := by kernel_rfl
theorem fld_79_0 : fld Try.prog 79 0 = some (0, 17) := by kernel_rfl
theorem fld_79_1 : fld Try.prog 79 1 = some (1, 17) := by kernel_rfl
theorem fld_79_2 : fld Try.prog 79 2 = some (2, 17) := by kernel_rfl
theorem fld_79_3 : fld Try.prog 79 3 = some (3, 9) := by kernel_rfl
theorem stf_79 : stf Try.prog 79 = some [(0, 1), (1, 1), (2, 1), (3, 1)] := by kernel_rfl
theorem arr_79 : arr Try.prog 79 = none := by kernel_rfl
theorem apf_79 : apf Try.prog 79 = some (4, 40) := by kernel_rfl
theorem tyc_80 : tyc Try.prog 80 = some (true, 0) := by kernel_rfl
theorem zer_80 : zer Try.prog 80 = some [] := by kernel_rfl
theorem arr_80 : arr Try.prog 80 = some (0, 16, 1) := by kernel_rfl
theorem stf_80 : stf Try.prog 80 = none := by kernel_rfl
theorem tyc_81 : tyc Try.prog 81 = some (true, 0) := by kernel_rfl
theorem zer_81 : zer Try.prog 81 = some [] := by kernel_rfl
theorem stf_81 : stf Try.prog 81 = some [(0, 0)] := by kernel_rfl
theorem arr_81 : arr Try.prog 81 = none := by kernel_rfl
theorem tyc_82 : tyc Try.prog 82 = some (true, 0) := by kernel_rfl
theorem zer_82 : zer Try.prog 82 = some [] := by kernel_rfl
theorem stf_82 : stf Try.prog 82 = some [(0, 0)] := by kernel_rfl
theorem arr_82 : arr Try.prog 82 = none := by kernel_rfl
theorem tyc_84 : tyc Try.prog 84 = some (false, 1) := by kernel_rfl
theorem zer_84 : zer Try.prog 84 = some [Go.Value.int Go.IntKind.u32 0] := by kernel_rfl
theorem und_84 : Try.prog.underlying 84 = some (.int .u32) := by kernel_rfl
theorem apf_84 : apf Try.prog 84 = some (1, 4) := by kernel_rfl
theorem tyc_85 : tyc Try.prog 85 = some (false, 1) := by kernel_rfl
theorem zer_85 : zer Try.prog 85 = some [Go.Value.int Go.IntKind.u8 0] := by kernel_rfl
theorem und_85 : Try.prog.underlying 85 = some (.int .u8) := by kernel_rfl
theorem apf_85 : apf Try.prog 85 = some (1, 1) := by kernel_rfl
theorem tyc_86 : tyc Try.prog 86 = some (false, 1) := by kernel_rfl
theorem zer_86 : zer Try.prog 86 = some [Go.Value.int Go.IntKind.u8 0] := by kernel_rfl
theorem und_86 : Try.prog.underlying 86 = some (.int .u8) := by kernel_rfl
theorem apf_86 : apf Try.prog 86 = some (1, 1) := by kernel_rfl
theorem tyc_88 : tyc Try.prog 88 = some (false, 1) := by kernel_rfl
theorem zer_88 : zer Try.prog 88 = some [Go.Value.pointer none] := by kernel_rfl
theorem apf_88 : apf Try.prog 88 = some (1, 8) := by kernel_rfl
theorem tyc_89 : tyc Try.prog 89 = some (false, 1) := by kernel_rfl
theorem zer_89 : zer Try.prog 89 = some [Go.Value.int Go.IntKind.i32 0] := by kernel_rfl
theorem und_89 : Try.prog.underlying 89 = some (.int .i32) := by kernel_rfl
theorem apf_89 : apf Try.prog 89 = some (1, 4) := by kernel_rfl
theorem tyc_90 : tyc Try.prog 90 = some (false, 1) := by kernel_rfl
theorem zer_90 : zer Try.prog 90 = some [Go.Value.int Go.IntKind.i32 0] := by kernel_rfl
theorem und_90 : Try.prog.underlying 90 = some (.int .i32) := by kernel_rfl
theorem apf_90 : apf Try.prog 90 = some (1, 4) := by kernel_rfl
theorem tyc_91 : tyc Try.prog 91 = some (true, 11) := by kernel_rfl
theorem zer_91 : zer Try.prog 91 = some [Go.Value.int Go.IntKind.u64 0, Go.Value.int Go.IntKind.u64 0, Go.Value.int Go.IntKind.u32 0, Go.Value.int Go.IntKind.u8 0, Go.Value.int Go.IntKind.u8 0, Go.Value.int Go.IntKind.u8 0, Go.Value.int Go.IntKind.u8 0, Go.Value.nilFunc, Go.Value.pointer none, Go.Value.int Go.IntKind.i32 0, Go.Value.int Go.IntKind.i32 0] := by kernel_rfl
theorem fld_91_0 : fld Try.prog 91 0 = some (0, 12) := by kernel_rfl
theorem fld_91_1 : fld Try.prog 91 1 = some (1, 12) := by kernel_rfl
theorem fld_91_2 : fld Try.prog 91 2 = some (2, 84) := by kernel_rfl
theorem fld_91_3 : fld Try.prog 91 3 = some (3, 85) := by kernel_rfl
theorem fld_91_4 : fld Try.prog 91 4 = some (4, 5) := by kernel_rfl
theorem fld_91_5 : fld Try.prog 91 5 = some (5, 5) := by kernel_rfl
theorem fld_91_6 : fld Try.prog 91 6 = some (6, 86) := by kernel_rfl
theorem fld_91_7 : fld Try.prog 91 7 = some (7, 87) := by kernel_rfl
theorem fld_91_8 : fld Try.prog 91 8 = some (8, 88) := by kernel_rfl
theorem fld_91_9 : fld Try.prog 91 9 = some (9, 89) := by kernel_rfl
theorem fld_91_10 : fld Try.prog 91 10 = some (10, 90) := by kernel_rfl
theorem stf_91 : stf Try.prog 91 = some [(0, 1), (1, 1), (2, 1), (3, 1), (4, 1), (5, 1), (6, 1), (7, 1), (8, 1), (9, 1), (10, 1)] := by kernel_rfl
theorem arr_91 : arr Try.prog 91 = none := by kernel_rfl
theorem apf_91 : apf Try.prog 91 = some (11, 48) := by kernel_rfl
theorem tyc_92 : tyc Try.prog 92 = some (true, 11) := by kernel_rfl
theorem zer_92 : zer Try.prog 92 = some [Go.Value.int Go.IntKind.u64 0, Go.Value.int Go.IntKind.u64 0, Go.Value.int Go.IntKind.u32 0, Go.Value.int Go.IntKind.u8 0, Go.Value.int Go.IntKind.u8 0, Go.Value.int Go.IntKind.u8 0, Go.Value.int Go.IntKind.u8 0, Go.Value.nilFunc, Go.Value.pointer none, Go.Value.int Go.IntKind.i32 0, Go.Value.int Go.IntKind.i32 0] := by kernel_rfl
theorem fld_92_0 : fld Try.prog 92 0 = some (0, 12) := by kernel_rfl
theorem fld_92_1 : fld Try.prog 92 1 = some (1, 12) := by kernel_rfl
theorem fld_92_2 : fld Try.prog 92 2 = some (2, 84) := by kernel_rfl
theorem fld_92_3 : fld Try.prog 92 3 = some (3, 85) := by kernel_rfl
theorem fld_92_4 : fld Try.prog 92 4 = some (4, 5) := by kernel_rfl
theorem fld_92_5 : fld Try.prog 92 5 = some (5, 5) := by kernel_rfl
theorem fld_92_6 : fld Try.prog 92 6 = some (6, 86) := by kernel_rfl
theorem fld_92_7 : fld Try.prog 92 7 = some (7, 87) := by kernel_rfl
theorem fld_92_8 : fld Try.prog 92 8 = some (8, 88) := by kernel_rfl
theorem fld_92_9 : fld Try.prog 92 9 = some (9, 89) := by kernel_rfl
theorem fld_92_10 : fld Try.prog 92 10 = some (10, 90) := by kernel_rfl
theorem stf_92 : stf Try.prog 92 = some [(0, 1), (1, 1), (2, 1), (3, 1), (4, 1), (5, 1), (6, 1), (7, 1), (8, 1), (9, 1), (10, 1)] := by kernel_rfl
theorem arr_92 : arr Try.prog 92 = none := by kernel_rfl
theorem apf_92 : apf Try.prog 92 = some (11, 48) := by kernel_rfl
theorem tyc_97 : tyc Try.prog 97 = some (true, 2) := by kernel_rfl
theorem zer_97 : zer Try.prog 97 = some [Go.Value.slice none 0 0, Go.Value.slice none 0 0] := by kernel_rfl
theorem fld_97_0 : fld Try.prog 97 0 = some (0, 56) := by kernel_rfl
theorem fld_97_1 : fld Try.prog 97 1 = some (1, 56) := by kernel_rfl
theorem stf_97 : stf Try.prog 97 = some [(0, 1), (1, 1)] := by kernel_rfl
theorem arr_97 : arr Try.prog 97 = none := by kernel_rfl
theorem apf_97 : apf Try.prog 97 = some (2, 48) := by kernel_rfl
theorem tyc_98 : tyc Try.prog 98 = some (true, 2) := by kernel_rfl
theorem zer_98 : zer Try.prog 98 = some [Go.Value.slice none 0 0, Go.Value.slice none 0 0] := by kernel_rfl
theorem fld_98_0 : fld Try.prog 98 0 = some (0, 56) := by kernel_rfl
theorem fld_98_1 : fld Try.prog 98 1 = some (1, 56) := by kernel_rfl
theorem stf_98 : stf Try.prog 98 = some [(0, 1), (1, 1)] := by kernel_rfl
theorem arr_98 : arr Try.prog 98 = none := by kernel_rfl
theorem apf_98 : apf Try.prog 98 = some (2, 48) := by kernel_rfl
theorem tyc_99 : tyc Try.prog 99 = some (false, 1) := by kernel_rfl
theorem zer_99 : zer Try.prog 99 = some [Go.Value.slice none 0 0] := by kernel_rfl
theorem elt_99 : elt Try.prog 99 = some (101, 1) := by kernel_rfl
theorem apf_99 : apf Try.prog 99 = some (1, 24) := by kernel_rfl
theorem tyc_100 : tyc Try.prog 100 = some (false, 1) := by kernel_rfl
theorem zer_100 : zer Try.prog 100 = some [Go.Value.slice none 0 0] := by kernel_rfl
theorem elt_100 : elt Try.prog 100 = some (101, 1) := by kernel_rfl
theorem apf_100 : apf Try.prog 100 = some (1, 24) := by kernel_rfl
theorem tyc_101 : tyc Try.prog 101 = some (false, 1) := by kernel_rfl
theorem zer_101 : zer Try.prog 101 = some [Go.Value.int Go.IntKind.u64 0] := by kernel_rfl
theorem und_101 : Try.prog.underlying 101 = some (.int .u64) := by kernel_rfl
theorem apf_101 : apf Try.prog 101 = some (1, 8) := by kernel_rfl
theorem fun_0 : Try.prog.funcs[0]? = some Try.f0 := by kernel_rfl
theorem fun_1 : Try.prog.funcs[1]? = some Try.f1 := by kernel_rfl
theorem fun_2 : Try.prog.funcs[2]? = some Try.f2 := by kernel_rfl
theorem fun_3 : Try.prog.funcs[3]? = some Try.f3 := by kernel_rfl
theorem fun_4 : Try.prog.funcs[4]? = some Try.f4 := by kernel_rfl
theorem fun_5 : Try.prog.funcs[5]? = some Try.f5 := by kernel_rfl
theorem fun_6 : Try.prog.funcs[6]? = some Try.f6 := by kernel_rfl
theorem fun_7 : Try.prog.funcs[7]? = some Try.f7 := by kernel_rfl
theorem fun_8 : Try.prog.funcs[8]? = some Try.f8 := by kernel_rfl
theorem fun_9 : Try.prog.funcs[9]? = some Try.f9 := by kernel_rfl
theorem fun_10 : Try.prog.funcs[10]? = some Try.f10 := by kernel_rfl
theorem fun_11 : Try.prog.funcs[11]? = some Try.f11 := by kernel_rfl
theorem fun_12 : Try.prog.funcs[12]? = some Try.f12 := by kernel_rfl
theorem fun_13 : Try.prog.funcs[13]? = some Try.f13 := by kernel_rfl
theorem fun_14 : Try.prog.funcs[14]? = some Try.f14 := by kernel_rfl
theorem fun_15 : Try.prog.funcs[15]? = some Try.f15 := by kernel_rfl
theorem fun_16 : Try.prog.funcs[16]? = some Try.f16 := by kernel_rfl
theorem fun_17 : Try.prog.funcs[17]? = some Try.f17 := by kernel_rfl
theorem fun_18 : Try.prog.funcs[18]? = some Try.f18 := by kernel_rfl
theorem fun_19 : Try.prog.funcs[19]? = some Try.f19 := by kernel_rfl
theorem fun_20 : Try.prog.funcs[20]? = some Try.f20 := by kernel_rfl
theorem fun_21 : Try.prog.funcs[21]? = some Try.f21 := by kernel_rfl
theorem fun_22 : Try.prog.funcs[22]? = some Try.f22 := by kernel_rfl
theorem fun_23 : Try.prog.funcs[23]? = some Try.f23 := by kernel_rfl
theorem fun_24 : Try.prog.funcs[24]? = some Try.f24 := by kernel_rfl
theorem fun_25 : Try.prog.funcs[25]? = some Try.f25 := by kernel_rfl
theorem fun_26 : Try.prog.funcs[26]? = some Try.f26 := by kernel_rfl
theorem fun_27 : Try.prog.funcs[27]? = some Try.f27 := by kernel_rfl
theorem fun_28 : Try.prog.funcs[28]? = some Try.f28 := by kernel_rfl
theorem fun_29 : Try.prog.funcs[29]? = some Try.f29 := by kernel_rfl
theorem fun_30 : Try.prog.funcs[30]? = some Try.f30 := by kernel_rfl
theorem fun_31 : Try.prog.funcs[31]? = some Try.f31 := by kernel_rfl
theorem fun_32 : Try.prog.funcs[32]? = some Try.f32 := by kernel_rfl
theorem fun_33 : Try.prog.funcs[33]? = some Try.f33 := by kernel_rfl
theorem fun_34 : Try.prog.funcs[34]? = some Try.f34 := by kernel_rfl
theorem fun_35 : Try.prog.funcs[35]? = some Try.f35 := by kernel_rfl
theorem fun_36 : Try.prog.funcs[36]? = some Try.f36 := by kernel_rfl
theorem fun_37 : Try.prog.funcs[37]? = some Try.f37 := by kernel_rfl
theorem fun_38 : Try.prog.funcs[38]? = some Try.f38 := by kernel_rfl
theorem fun_39 : Try.prog.funcs[39]? = some Try.f39 := by kernel_rfl
theorem fun_40 : Try.prog.funcs[40]? = some Try.f40 := by kernel_rfl
theorem fun_41 : Try.prog.funcs[41]? = some Try.f41 := by kernel_rfl
theorem fun_42 : Try.prog.funcs[42]? = some Try.f42 := by kernel_rfl
theorem fun_43 : Try.prog.funcs[43]? = some Try.f43 := by kernel_rfl
theorem fun_44 : Try.prog.funcs[44]? = some Try.f44 := by kernel_rfl
theorem fun_45 : Try.prog.funcs[45]? = some Try.f45 := by kernel_rfl
theorem fun_46 : Try.prog.funcs[46]? = some Try.f46 := by kernel_rfl
theorem fun_47 : Try.prog.funcs[47]? = some Try.f47 := by kernel_rfl
theorem fun_48 : Try.prog.funcs[48]? = some Try.f48 := by kernel_rfl
theorem fun_49 : Try.prog.funcs[49]? = some Try.f49 := by kernel_rfl
theorem fun_50 : Try.prog.funcs[50]? = some Try.f50 := by kernel_rfl
theorem fun_51 : Try.prog.funcs[51]? = some Try.f51 := by kernel_rfl
theorem fun_52 : Try.prog.funcs[52]? = some Try.f52 := by kernel_rfl
theorem fun_53 : Try.prog.funcs[53]? = some Try.f53 := by kernel_rfl
theorem fun_54 : Try.prog.funcs[54]? = some Try.f54 := by kernel_rfl
end Go.Proofs.Ytbhpaiieoncbkaa.Ab
