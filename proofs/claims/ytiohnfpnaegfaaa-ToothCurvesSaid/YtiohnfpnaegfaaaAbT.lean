/- Facts of the seat: its types and its functions, by number. -/
import Derived.Test.YtiohnfpnaegfaaaAbV
import Derived.Test.YtiohnfpnaegfaaaProg
import Derived.KernelRfl
namespace Go.Proofs.Ytiohnfpnaegfaaa.Ab
open Go Go.RowKit
set_option linter.defProp false
theorem tyc_2 : tyc Try.prog 2 = some (false, 1) := by kernel_rfl
theorem zer_2 : zer Try.prog 2 = some [Go.Value.int Go.IntKind.i64 0] := by kernel_rfl
theorem zds_2 : zds Try.prog 2 = some [.v (Go.Value.int Go.IntKind.i64 0)] := by kernel_rfl
theorem und_2 : Try.prog.underlying 2 = some (.int .i64) := by kernel_rfl
theorem apf_2 : apf Try.prog 2 = some (1, 8) := by kernel_rfl
theorem tyc_3 : tyc Try.prog 3 = some (false, 1) := by kernel_rfl
theorem zer_3 : zer Try.prog 3 = some [Go.Value.int Go.IntKind.i64 0] := by kernel_rfl
theorem zds_3 : zds Try.prog 3 = some [.v (Go.Value.int Go.IntKind.i64 0)] := by kernel_rfl
theorem und_3 : Try.prog.underlying 3 = some (.int .i64) := by kernel_rfl
theorem apf_3 : apf Try.prog 3 = some (1, 8) := by kernel_rfl
theorem tyc_4 : tyc Try.prog 4 = some (false, 1) := by kernel_rfl
theorem zer_4 : zer Try.prog 4 = some [Go.Value.bool false] := by kernel_rfl
theorem zds_4 : zds Try.prog 4 = some [.v (Go.Value.bool false)] := by kernel_rfl
theorem und_4 : Try.prog.underlying 4 = some .bool := by kernel_rfl
theorem apf_4 : apf Try.prog 4 = some (1, 1) := by kernel_rfl
theorem tyc_5 : tyc Try.prog 5 = some (false, 1) := by kernel_rfl
theorem zer_5 : zer Try.prog 5 = some [Go.Value.int Go.IntKind.u8 0] := by kernel_rfl
theorem zds_5 : zds Try.prog 5 = some [.v (Go.Value.int Go.IntKind.u8 0)] := by kernel_rfl
theorem und_5 : Try.prog.underlying 5 = some (.int .u8) := by kernel_rfl
theorem apf_5 : apf Try.prog 5 = some (1, 1) := by kernel_rfl
theorem tyc_6 : tyc Try.prog 6 = some (false, 1) := by kernel_rfl
theorem zer_6 : zer Try.prog 6 = some [Go.Value.int Go.IntKind.u8 0] := by kernel_rfl
theorem zds_6 : zds Try.prog 6 = some [.v (Go.Value.int Go.IntKind.u8 0)] := by kernel_rfl
theorem und_6 : Try.prog.underlying 6 = some (.int .u8) := by kernel_rfl
theorem apf_6 : apf Try.prog 6 = some (1, 1) := by kernel_rfl
theorem tyc_7 : tyc Try.prog 7 = some (true, 4) := by kernel_rfl
theorem zer_7 : zer Try.prog 7 = some [Go.Value.int Go.IntKind.i64 0, Go.Value.int Go.IntKind.i64 0, Go.Value.bool false, Go.Value.int Go.IntKind.u8 0] := by kernel_rfl
theorem zds_7 : zds Try.prog 7 = some [.v (Go.Value.int Go.IntKind.i64 0), .v (Go.Value.int Go.IntKind.i64 0), .v (Go.Value.bool false), .v (Go.Value.int Go.IntKind.u8 0)] := by kernel_rfl
theorem fld_7_0 : fld Try.prog 7 0 = some (0, 2) := by kernel_rfl
theorem fld_7_1 : fld Try.prog 7 1 = some (1, 3) := by kernel_rfl
theorem fld_7_2 : fld Try.prog 7 2 = some (2, 4) := by kernel_rfl
theorem fld_7_3 : fld Try.prog 7 3 = some (3, 6) := by kernel_rfl
theorem stf_7 : stf Try.prog 7 = some [(0, 1), (1, 1), (2, 1), (3, 1)] := by kernel_rfl
theorem arr_7 : arr Try.prog 7 = none := by kernel_rfl
theorem apf_7 : apf Try.prog 7 = some (4, 24) := by kernel_rfl
theorem tyc_8 : tyc Try.prog 8 = some (true, 4) := by kernel_rfl
theorem zer_8 : zer Try.prog 8 = some [Go.Value.int Go.IntKind.i64 0, Go.Value.int Go.IntKind.i64 0, Go.Value.bool false, Go.Value.int Go.IntKind.u8 0] := by kernel_rfl
theorem zds_8 : zds Try.prog 8 = some [.v (Go.Value.int Go.IntKind.i64 0), .v (Go.Value.int Go.IntKind.i64 0), .v (Go.Value.bool false), .v (Go.Value.int Go.IntKind.u8 0)] := by kernel_rfl
theorem fld_8_0 : fld Try.prog 8 0 = some (0, 2) := by kernel_rfl
theorem fld_8_1 : fld Try.prog 8 1 = some (1, 3) := by kernel_rfl
theorem fld_8_2 : fld Try.prog 8 2 = some (2, 4) := by kernel_rfl
theorem fld_8_3 : fld Try.prog 8 3 = some (3, 6) := by kernel_rfl
theorem stf_8 : stf Try.prog 8 = some [(0, 1), (1, 1), (2, 1), (3, 1)] := by kernel_rfl
theorem arr_8 : arr Try.prog 8 = none := by kernel_rfl
theorem apf_8 : apf Try.prog 8 = some (4, 24) := by kernel_rfl
theorem tyc_9 : tyc Try.prog 9 = some (false, 1) := by kernel_rfl
theorem zer_9 : zer Try.prog 9 = some [Go.Value.string { data := #[] }] := by kernel_rfl
theorem zds_9 : zds Try.prog 9 = some [.v (Go.Value.string { data := #[] })] := by kernel_rfl
theorem apf_9 : apf Try.prog 9 = some (1, 16) := by kernel_rfl
theorem tyc_10 : tyc Try.prog 10 = some (false, 1) := by kernel_rfl
theorem zer_10 : zer Try.prog 10 = some [Go.Value.string { data := #[] }] := by kernel_rfl
theorem zds_10 : zds Try.prog 10 = some [.v (Go.Value.string { data := #[] })] := by kernel_rfl
theorem apf_10 : apf Try.prog 10 = some (1, 16) := by kernel_rfl
theorem tyc_11 : tyc Try.prog 11 = some (false, 1) := by kernel_rfl
theorem zer_11 : zer Try.prog 11 = some [Go.Value.string { data := #[] }] := by kernel_rfl
theorem zds_11 : zds Try.prog 11 = some [.v (Go.Value.string { data := #[] })] := by kernel_rfl
theorem apf_11 : apf Try.prog 11 = some (1, 16) := by kernel_rfl
theorem tyc_12 : tyc Try.prog 12 = some (false, 1) := by kernel_rfl
theorem zer_12 : zer Try.prog 12 = some [Go.Value.int Go.IntKind.u64 0] := by kernel_rfl
theorem zds_12 : zds Try.prog 12 = some [.v (Go.Value.int Go.IntKind.u64 0)] := by kernel_rfl
theorem und_12 : Try.prog.underlying 12 = some (.int .u64) := by kernel_rfl
theorem apf_12 : apf Try.prog 12 = some (1, 8) := by kernel_rfl
theorem tyc_13 : tyc Try.prog 13 = some (true, 2) := by kernel_rfl
theorem zer_13 : zer Try.prog 13 = some [Go.Value.string { data := #[] }, Go.Value.int Go.IntKind.u64 0] := by kernel_rfl
theorem zds_13 : zds Try.prog 13 = some [.v (Go.Value.string { data := #[] }), .v (Go.Value.int Go.IntKind.u64 0)] := by kernel_rfl
theorem fld_13_0 : fld Try.prog 13 0 = some (0, 9) := by kernel_rfl
theorem fld_13_1 : fld Try.prog 13 1 = some (1, 12) := by kernel_rfl
theorem stf_13 : stf Try.prog 13 = some [(0, 1), (1, 1)] := by kernel_rfl
theorem arr_13 : arr Try.prog 13 = none := by kernel_rfl
theorem apf_13 : apf Try.prog 13 = some (2, 24) := by kernel_rfl
theorem tyc_14 : tyc Try.prog 14 = some (true, 2) := by kernel_rfl
theorem zer_14 : zer Try.prog 14 = some [Go.Value.string { data := #[] }, Go.Value.int Go.IntKind.u64 0] := by kernel_rfl
theorem zds_14 : zds Try.prog 14 = some [.v (Go.Value.string { data := #[] }), .v (Go.Value.int Go.IntKind.u64 0)] := by kernel_rfl
theorem fld_14_0 : fld Try.prog 14 0 = some (0, 9) := by kernel_rfl
theorem fld_14_1 : fld Try.prog 14 1 = some (1, 12) := by kernel_rfl
theorem stf_14 : stf Try.prog 14 = some [(0, 1), (1, 1)] := by kernel_rfl
theorem arr_14 : arr Try.prog 14 = none := by kernel_rfl
theorem apf_14 : apf Try.prog 14 = some (2, 24) := by kernel_rfl
theorem tyc_15 : tyc Try.prog 15 = some (false, 1) := by kernel_rfl
theorem zer_15 : zer Try.prog 15 = some [Go.Value.pointer none] := by kernel_rfl
theorem zds_15 : zds Try.prog 15 = some [.v (Go.Value.pointer none)] := by kernel_rfl
theorem apf_15 : apf Try.prog 15 = some (1, 8) := by kernel_rfl
theorem tyc_16 : tyc Try.prog 16 = some (false, 1) := by kernel_rfl
theorem zer_16 : zer Try.prog 16 = some [Go.Value.pointer none] := by kernel_rfl
theorem zds_16 : zds Try.prog 16 = some [.v (Go.Value.pointer none)] := by kernel_rfl
theorem apf_16 : apf Try.prog 16 = some (1, 8) := by kernel_rfl
theorem tyc_17 : tyc Try.prog 17 = some (false, 1) := by kernel_rfl
theorem zer_17 : zer Try.prog 17 = some [Go.Value.pointer none] := by kernel_rfl
theorem zds_17 : zds Try.prog 17 = some [.v (Go.Value.pointer none)] := by kernel_rfl
theorem apf_17 : apf Try.prog 17 = some (1, 8) := by kernel_rfl
theorem tyc_18 : tyc Try.prog 18 = some (true, 1) := by kernel_rfl
theorem zer_18 : zer Try.prog 18 = some [Go.Value.pointer none] := by kernel_rfl
theorem zds_18 : zds Try.prog 18 = some [.v (Go.Value.pointer none)] := by kernel_rfl
theorem fld_18_0 : fld Try.prog 18 0 = some (0, 17) := by kernel_rfl
theorem stf_18 : stf Try.prog 18 = some [(0, 1)] := by kernel_rfl
theorem arr_18 : arr Try.prog 18 = none := by kernel_rfl
theorem apf_18 : apf Try.prog 18 = some (1, 8) := by kernel_rfl
theorem tyc_19 : tyc Try.prog 19 = some (true, 1) := by kernel_rfl
theorem zer_19 : zer Try.prog 19 = some [Go.Value.pointer none] := by kernel_rfl
theorem zds_19 : zds Try.prog 19 = some [.v (Go.Value.pointer none)] := by kernel_rfl
theorem fld_19_0 : fld Try.prog 19 0 = some (0, 17) := by kernel_rfl
theorem stf_19 : stf Try.prog 19 = some [(0, 1)] := by kernel_rfl
theorem arr_19 : arr Try.prog 19 = none := by kernel_rfl
theorem apf_19 : apf Try.prog 19 = some (1, 8) := by kernel_rfl
theorem tyc_21 : tyc Try.prog 21 = some (false, 1) := by kernel_rfl
theorem zer_21 : zer Try.prog 21 = some [Go.Value.int Go.IntKind.i32 0] := by kernel_rfl
theorem zds_21 : zds Try.prog 21 = some [.v (Go.Value.int Go.IntKind.i32 0)] := by kernel_rfl
theorem und_21 : Try.prog.underlying 21 = some (.int .i32) := by kernel_rfl
theorem apf_21 : apf Try.prog 21 = some (1, 4) := by kernel_rfl
theorem tyc_22 : tyc Try.prog 22 = some (false, 1) := by kernel_rfl
theorem zer_22 : zer Try.prog 22 = some [Go.Value.slice none 0 0] := by kernel_rfl
theorem zds_22 : zds Try.prog 22 = some [.sl 2 []] := by kernel_rfl
theorem elt_22 : elt Try.prog 22 = some (66, 2) := by kernel_rfl
theorem apf_22 : apf Try.prog 22 = some (1, 24) := by kernel_rfl
theorem tyc_23 : tyc Try.prog 23 = some (false, 1) := by kernel_rfl
theorem zer_23 : zer Try.prog 23 = some [Go.Value.slice none 0 0] := by kernel_rfl
theorem zds_23 : zds Try.prog 23 = some [.sl 6 []] := by kernel_rfl
theorem elt_23 : elt Try.prog 23 = some (79, 6) := by kernel_rfl
theorem apf_23 : apf Try.prog 23 = some (1, 24) := by kernel_rfl
theorem tyc_24 : tyc Try.prog 24 = some (true, 4) := by kernel_rfl
theorem zer_24 : zer Try.prog 24 = some [Go.Value.slice none 0 0, Go.Value.slice none 0 0, Go.Value.int Go.IntKind.i64 0, Go.Value.slice none 0 0] := by kernel_rfl
theorem zds_24 : zds Try.prog 24 = some [.v (Go.Value.slice none 0 0), .v (Go.Value.slice none 0 0), .v (Go.Value.int Go.IntKind.i64 0), .v (Go.Value.slice none 0 0)] := by kernel_rfl
theorem fld_24_0 : fld Try.prog 24 0 = some (0, 22) := by kernel_rfl
theorem fld_24_1 : fld Try.prog 24 1 = some (1, 22) := by kernel_rfl
theorem fld_24_2 : fld Try.prog 24 2 = some (2, 3) := by kernel_rfl
theorem fld_24_3 : fld Try.prog 24 3 = some (3, 23) := by kernel_rfl
theorem stf_24 : stf Try.prog 24 = some [(0, 1), (1, 1), (2, 1), (3, 1)] := by kernel_rfl
theorem arr_24 : arr Try.prog 24 = none := by kernel_rfl
theorem apf_24 : apf Try.prog 24 = some (4, 80) := by kernel_rfl
theorem tyc_25 : tyc Try.prog 25 = some (true, 4) := by kernel_rfl
theorem zer_25 : zer Try.prog 25 = some [Go.Value.slice none 0 0, Go.Value.slice none 0 0, Go.Value.int Go.IntKind.i64 0, Go.Value.slice none 0 0] := by kernel_rfl
theorem zds_25 : zds Try.prog 25 = some [.v (Go.Value.slice none 0 0), .v (Go.Value.slice none 0 0), .v (Go.Value.int Go.IntKind.i64 0), .v (Go.Value.slice none 0 0)] := by kernel_rfl
theorem fld_25_0 : fld Try.prog 25 0 = some (0, 22) := by kernel_rfl
theorem fld_25_1 : fld Try.prog 25 1 = some (1, 22) := by kernel_rfl
theorem fld_25_2 : fld Try.prog 25 2 = some (2, 3) := by kernel_rfl
theorem fld_25_3 : fld Try.prog 25 3 = some (3, 23) := by kernel_rfl
theorem stf_25 : stf Try.prog 25 = some [(0, 1), (1, 1), (2, 1), (3, 1)] := by kernel_rfl
theorem arr_25 : arr Try.prog 25 = none := by kernel_rfl
theorem apf_25 : apf Try.prog 25 = some (4, 80) := by kernel_rfl
theorem tyc_26 : tyc Try.prog 26 = some (true, 4) := by kernel_rfl
theorem zer_26 : zer Try.prog 26 = some [Go.Value.int Go.IntKind.i64 0, Go.Value.int Go.IntKind.i64 0, Go.Value.int Go.IntKind.i64 0, Go.Value.int Go.IntKind.i64 0] := by kernel_rfl
theorem zds_26 : zds Try.prog 26 = some [.v (Go.Value.int Go.IntKind.i64 0), .v (Go.Value.int Go.IntKind.i64 0), .v (Go.Value.int Go.IntKind.i64 0), .v (Go.Value.int Go.IntKind.i64 0)] := by kernel_rfl
theorem fld_26_0 : fld Try.prog 26 0 = some (0, 3) := by kernel_rfl
theorem fld_26_1 : fld Try.prog 26 1 = some (1, 3) := by kernel_rfl
theorem fld_26_2 : fld Try.prog 26 2 = some (2, 3) := by kernel_rfl
theorem fld_26_3 : fld Try.prog 26 3 = some (3, 3) := by kernel_rfl
theorem stf_26 : stf Try.prog 26 = some [(0, 1), (1, 1), (2, 1), (3, 1)] := by kernel_rfl
theorem arr_26 : arr Try.prog 26 = none := by kernel_rfl
theorem apf_26 : apf Try.prog 26 = some (4, 32) := by kernel_rfl
theorem tyc_27 : tyc Try.prog 27 = some (true, 4) := by kernel_rfl
theorem zer_27 : zer Try.prog 27 = some [Go.Value.int Go.IntKind.i64 0, Go.Value.int Go.IntKind.i64 0, Go.Value.int Go.IntKind.i64 0, Go.Value.int Go.IntKind.i64 0] := by kernel_rfl
theorem zds_27 : zds Try.prog 27 = some [.v (Go.Value.int Go.IntKind.i64 0), .v (Go.Value.int Go.IntKind.i64 0), .v (Go.Value.int Go.IntKind.i64 0), .v (Go.Value.int Go.IntKind.i64 0)] := by kernel_rfl
theorem fld_27_0 : fld Try.prog 27 0 = some (0, 3) := by kernel_rfl
theorem fld_27_1 : fld Try.prog 27 1 = some (1, 3) := by kernel_rfl
theorem fld_27_2 : fld Try.prog 27 2 = some (2, 3) := by kernel_rfl
theorem fld_27_3 : fld Try.prog 27 3 = some (3, 3) := by kernel_rfl
theorem stf_27 : stf Try.prog 27 = some [(0, 1), (1, 1), (2, 1), (3, 1)] := by kernel_rfl
theorem arr_27 : arr Try.prog 27 = none := by kernel_rfl
theorem apf_27 : apf Try.prog 27 = some (4, 32) := by kernel_rfl
theorem tyc_31 : tyc Try.prog 31 = some (false, 1) := by kernel_rfl
theorem zer_31 : zer Try.prog 31 = some [Go.Value.slice none 0 0] := by kernel_rfl
theorem zds_31 : zds Try.prog 31 = some [.sl 2 []] := by kernel_rfl
theorem elt_31 : elt Try.prog 31 = some (82, 2) := by kernel_rfl
theorem apf_31 : apf Try.prog 31 = some (1, 24) := by kernel_rfl
theorem tyc_32 : tyc Try.prog 32 = some (false, 1) := by kernel_rfl
theorem zer_32 : zer Try.prog 32 = some [Go.Value.int Go.IntKind.i64 0] := by kernel_rfl
theorem zds_32 : zds Try.prog 32 = some [.v (Go.Value.int Go.IntKind.i64 0)] := by kernel_rfl
theorem und_32 : Try.prog.underlying 32 = some (.int .i64) := by kernel_rfl
theorem apf_32 : apf Try.prog 32 = some (1, 8) := by kernel_rfl
theorem tyc_39 : tyc Try.prog 39 = some (false, 1) := by kernel_rfl
theorem zer_39 : zer Try.prog 39 = some [Go.Value.slice none 0 0] := by kernel_rfl
theorem zds_39 : zds Try.prog 39 = some [.sl 1 []] := by kernel_rfl
theorem elt_39 : elt Try.prog 39 = some (3, 1) := by kernel_rfl
theorem apf_39 : apf Try.prog 39 = some (1, 24) := by kernel_rfl
theorem tyc_40 : tyc Try.prog 40 = some (true, 3) := by kernel_rfl
theorem zer_40 : zer Try.prog 40 = some [Go.Value.slice none 0 0, Go.Value.slice none 0 0, Go.Value.slice none 0 0] := by kernel_rfl
theorem zds_40 : zds Try.prog 40 = some [.v (Go.Value.slice none 0 0), .v (Go.Value.slice none 0 0), .v (Go.Value.slice none 0 0)] := by kernel_rfl
theorem fld_40_0 : fld Try.prog 40 0 = some (0, 39) := by kernel_rfl
theorem fld_40_1 : fld Try.prog 40 1 = some (1, 39) := by kernel_rfl
theorem fld_40_2 : fld Try.prog 40 2 = some (2, 23) := by kernel_rfl
theorem stf_40 : stf Try.prog 40 = some [(0, 1), (1, 1), (2, 1)] := by kernel_rfl
theorem arr_40 : arr Try.prog 40 = none := by kernel_rfl
theorem apf_40 : apf Try.prog 40 = some (3, 72) := by kernel_rfl
theorem tyc_41 : tyc Try.prog 41 = some (true, 3) := by kernel_rfl
theorem zer_41 : zer Try.prog 41 = some [Go.Value.slice none 0 0, Go.Value.slice none 0 0, Go.Value.slice none 0 0] := by kernel_rfl
theorem zds_41 : zds Try.prog 41 = some [.v (Go.Value.slice none 0 0), .v (Go.Value.slice none 0 0), .v (Go.Value.slice none 0 0)] := by kernel_rfl
theorem fld_41_0 : fld Try.prog 41 0 = some (0, 39) := by kernel_rfl
theorem fld_41_1 : fld Try.prog 41 1 = some (1, 39) := by kernel_rfl
theorem fld_41_2 : fld Try.prog 41 2 = some (2, 23) := by kernel_rfl
theorem stf_41 : stf Try.prog 41 = some [(0, 1), (1, 1), (2, 1)] := by kernel_rfl
theorem arr_41 : arr Try.prog 41 = none := by kernel_rfl
theorem apf_41 : apf Try.prog 41 = some (3, 72) := by kernel_rfl
theorem tyc_65 : tyc Try.prog 65 = some (true, 2) := by kernel_rfl
theorem zer_65 : zer Try.prog 65 = some [Go.Value.int Go.IntKind.i64 0, Go.Value.int Go.IntKind.i64 0] := by kernel_rfl
theorem zds_65 : zds Try.prog 65 = some [.v (Go.Value.int Go.IntKind.i64 0), .v (Go.Value.int Go.IntKind.i64 0)] := by kernel_rfl
theorem fld_65_0 : fld Try.prog 65 0 = some (0, 3) := by kernel_rfl
theorem fld_65_1 : fld Try.prog 65 1 = some (1, 3) := by kernel_rfl
theorem stf_65 : stf Try.prog 65 = some [(0, 1), (1, 1)] := by kernel_rfl
theorem arr_65 : arr Try.prog 65 = none := by kernel_rfl
theorem apf_65 : apf Try.prog 65 = some (2, 16) := by kernel_rfl
theorem tyc_66 : tyc Try.prog 66 = some (true, 2) := by kernel_rfl
theorem zer_66 : zer Try.prog 66 = some [Go.Value.int Go.IntKind.i64 0, Go.Value.int Go.IntKind.i64 0] := by kernel_rfl
theorem zds_66 : zds Try.prog 66 = some [.v (Go.Value.int Go.IntKind.i64 0), .v (Go.Value.int Go.IntKind.i64 0)] := by kernel_rfl
theorem fld_66_0 : fld Try.prog 66 0 = some (0, 3) := by kernel_rfl
theorem fld_66_1 : fld Try.prog 66 1 = some (1, 3) := by kernel_rfl
theorem stf_66 : stf Try.prog 66 = some [(0, 1), (1, 1)] := by kernel_rfl
theorem arr_66 : arr Try.prog 66 = none := by kernel_rfl
theorem apf_66 : apf Try.prog 66 = some (2, 16) := by kernel_rfl
theorem tyc_69 : tyc Try.prog 69 = some (true, 6) := by kernel_rfl
theorem zer_69 : zer Try.prog 69 = some [Go.Value.slice none 0 0, Go.Value.slice none 0 0, Go.Value.int Go.IntKind.i64 0, Go.Value.slice none 0 0, Go.Value.slice none 0 0, Go.Value.slice none 0 0] := by kernel_rfl
theorem zds_69 : zds Try.prog 69 = some [.v (Go.Value.slice none 0 0), .v (Go.Value.slice none 0 0), .v (Go.Value.int Go.IntKind.i64 0), .v (Go.Value.slice none 0 0), .v (Go.Value.slice none 0 0), .v (Go.Value.slice none 0 0)] := by kernel_rfl
theorem fld_69_0 : fld Try.prog 69 0 = some (0, 25) := by kernel_rfl
theorem fld_69_1 : fld Try.prog 69 1 = some (4, 22) := by kernel_rfl
theorem fld_69_2 : fld Try.prog 69 2 = some (5, 22) := by kernel_rfl
theorem stf_69 : stf Try.prog 69 = some [(0, 4), (4, 1), (5, 1)] := by kernel_rfl
theorem arr_69 : arr Try.prog 69 = none := by kernel_rfl
theorem apf_69 : apf Try.prog 69 = some (6, 128) := by kernel_rfl
theorem tyc_70 : tyc Try.prog 70 = some (true, 6) := by kernel_rfl
theorem zer_70 : zer Try.prog 70 = some [Go.Value.slice none 0 0, Go.Value.slice none 0 0, Go.Value.int Go.IntKind.i64 0, Go.Value.slice none 0 0, Go.Value.slice none 0 0, Go.Value.slice none 0 0] := by kernel_rfl
theorem zds_70 : zds Try.prog 70 = some [.v (Go.Value.slice none 0 0), .v (Go.Value.slice none 0 0), .v (Go.Value.int Go.IntKind.i64 0), .v (Go.Value.slice none 0 0), .v (Go.Value.slice none 0 0), .v (Go.Value.slice none 0 0)] := by kernel_rfl
theorem fld_70_0 : fld Try.prog 70 0 = some (0, 25) := by kernel_rfl
theorem fld_70_1 : fld Try.prog 70 1 = some (4, 22) := by kernel_rfl
theorem fld_70_2 : fld Try.prog 70 2 = some (5, 22) := by kernel_rfl
theorem stf_70 : stf Try.prog 70 = some [(0, 4), (4, 1), (5, 1)] := by kernel_rfl
theorem arr_70 : arr Try.prog 70 = none := by kernel_rfl
theorem apf_70 : apf Try.prog 70 = some (6, 128) := by kernel_rfl
theorem tyc_73 : tyc Try.prog 73 = some (false, 1) := by kernel_rfl
theorem zer_73 : zer Try.prog 73 = some [Go.Value.slice none 0 0] := by kernel_rfl
theorem zds_73 : zds Try.prog 73 = some [.sl 4 []] := by kernel_rfl
theorem elt_73 : elt Try.prog 73 = some (98, 4) := by kernel_rfl
theorem apf_73 : apf Try.prog 73 = some (1, 24) := by kernel_rfl
theorem tyc_74 : tyc Try.prog 74 = some (true, 3) := by kernel_rfl
theorem zer_74 : zer Try.prog 74 = some [Go.Value.slice none 0 0, Go.Value.slice none 0 0, Go.Value.slice none 0 0] := by kernel_rfl
theorem zds_74 : zds Try.prog 74 = some [.v (Go.Value.slice none 0 0), .v (Go.Value.slice none 0 0), .v (Go.Value.slice none 0 0)] := by kernel_rfl
theorem fld_74_0 : fld Try.prog 74 0 = some (0, 39) := by kernel_rfl
theorem fld_74_1 : fld Try.prog 74 1 = some (1, 39) := by kernel_rfl
theorem fld_74_2 : fld Try.prog 74 2 = some (2, 73) := by kernel_rfl
theorem stf_74 : stf Try.prog 74 = some [(0, 1), (1, 1), (2, 1)] := by kernel_rfl
theorem arr_74 : arr Try.prog 74 = none := by kernel_rfl
theorem apf_74 : apf Try.prog 74 = some (3, 72) := by kernel_rfl
theorem tyc_75 : tyc Try.prog 75 = some (true, 3) := by kernel_rfl
theorem zer_75 : zer Try.prog 75 = some [Go.Value.slice none 0 0, Go.Value.slice none 0 0, Go.Value.slice none 0 0] := by kernel_rfl
theorem zds_75 : zds Try.prog 75 = some [.v (Go.Value.slice none 0 0), .v (Go.Value.slice none 0 0), .v (Go.Value.slice none 0 0)] := by kernel_rfl
theorem fld_75_0 : fld Try.prog 75 0 = some (0, 39) := by kernel_rfl
theorem fld_75_1 : fld Try.prog 75 1 = some (1, 39) := by kernel_rfl
theorem fld_75_2 : fld Try.prog 75 2 = some (2, 73) := by kernel_rfl
theorem stf_75 : stf Try.prog 75 = some [(0, 1), (1, 1), (2, 1)] := by kernel_rfl
theorem arr_75 : arr Try.prog 75 = none := by kernel_rfl
theorem apf_75 : apf Try.prog 75 = some (3, 72) := by kernel_rfl
theorem tyc_78 : tyc Try.prog 78 = some (true, 6) := by kernel_rfl
theorem zer_78 : zer Try.prog 78 = some [Go.Value.int Go.IntKind.i64 0, Go.Value.int Go.IntKind.i64 0, Go.Value.int Go.IntKind.i64 0, Go.Value.int Go.IntKind.i64 0, Go.Value.int Go.IntKind.i64 0, Go.Value.int Go.IntKind.i64 0] := by kernel_rfl
theorem zds_78 : zds Try.prog 78 = some [.v (Go.Value.int Go.IntKind.i64 0), .v (Go.Value.int Go.IntKind.i64 0), .v (Go.Value.int Go.IntKind.i64 0), .v (Go.Value.int Go.IntKind.i64 0), .v (Go.Value.int Go.IntKind.i64 0), .v (Go.Value.int Go.IntKind.i64 0)] := by kernel_rfl
theorem fld_78_0 : fld Try.prog 78 0 = some (0, 66) := by kernel_rfl
theorem fld_78_1 : fld Try.prog 78 1 = some (2, 66) := by kernel_rfl
theorem fld_78_2 : fld Try.prog 78 2 = some (4, 66) := by kernel_rfl
theorem stf_78 : stf Try.prog 78 = some [(0, 2), (2, 2), (4, 2)] := by kernel_rfl
theorem arr_78 : arr Try.prog 78 = none := by kernel_rfl
theorem apf_78 : apf Try.prog 78 = some (6, 48) := by kernel_rfl
theorem tyc_79 : tyc Try.prog 79 = some (true, 6) := by kernel_rfl
theorem zer_79 : zer Try.prog 79 = some [Go.Value.int Go.IntKind.i64 0, Go.Value.int Go.IntKind.i64 0, Go.Value.int Go.IntKind.i64 0, Go.Value.int Go.IntKind.i64 0, Go.Value.int Go.IntKind.i64 0, Go.Value.int Go.IntKind.i64 0] := by kernel_rfl
theorem zds_79 : zds Try.prog 79 = some [.v (Go.Value.int Go.IntKind.i64 0), .v (Go.Value.int Go.IntKind.i64 0), .v (Go.Value.int Go.IntKind.i64 0), .v (Go.Value.int Go.IntKind.i64 0), .v (Go.Value.int Go.IntKind.i64 0), .v (Go.Value.int Go.IntKind.i64 0)] := by kernel_rfl
theorem fld_79_0 : fld Try.prog 79 0 = some (0, 66) := by kernel_rfl
theorem fld_79_1 : fld Try.prog 79 1 = some (2, 66) := by kernel_rfl
theorem fld_79_2 : fld Try.prog 79 2 = some (4, 66) := by kernel_rfl
theorem stf_79 : stf Try.prog 79 = some [(0, 2), (2, 2), (4, 2)] := by kernel_rfl
theorem arr_79 : arr Try.prog 79 = none := by kernel_rfl
theorem apf_79 : apf Try.prog 79 = some (6, 48) := by kernel_rfl
theorem tyc_81 : tyc Try.prog 81 = some (true, 2) := by kernel_rfl
theorem zer_81 : zer Try.prog 81 = some [Go.Value.int Go.IntKind.i64 0, Go.Value.int Go.IntKind.i64 0] := by kernel_rfl
theorem zds_81 : zds Try.prog 81 = some [.v (Go.Value.int Go.IntKind.i64 0), .v (Go.Value.int Go.IntKind.i64 0)] := by kernel_rfl
theorem fld_81_0 : fld Try.prog 81 0 = some (0, 3) := by kernel_rfl
theorem fld_81_1 : fld Try.prog 81 1 = some (1, 3) := by kernel_rfl
theorem stf_81 : stf Try.prog 81 = some [(0, 1), (1, 1)] := by kernel_rfl
theorem arr_81 : arr Try.prog 81 = none := by kernel_rfl
theorem apf_81 : apf Try.prog 81 = some (2, 16) := by kernel_rfl
theorem tyc_82 : tyc Try.prog 82 = some (true, 2) := by kernel_rfl
theorem zer_82 : zer Try.prog 82 = some [Go.Value.int Go.IntKind.i64 0, Go.Value.int Go.IntKind.i64 0] := by kernel_rfl
theorem zds_82 : zds Try.prog 82 = some [.v (Go.Value.int Go.IntKind.i64 0), .v (Go.Value.int Go.IntKind.i64 0)] := by kernel_rfl
theorem fld_82_0 : fld Try.prog 82 0 = some (0, 3) := by kernel_rfl
theorem fld_82_1 : fld Try.prog 82 1 = some (1, 3) := by kernel_rfl
theorem stf_82 : stf Try.prog 82 = some [(0, 1), (1, 1)] := by kernel_rfl
theorem arr_82 : arr Try.prog 82 = none := by kernel_rfl
theorem apf_82 : apf Try.prog 82 = some (2, 16) := by kernel_rfl
theorem tyc_83 : tyc Try.prog 83 = some (false, 1) := by kernel_rfl
theorem zer_83 : zer Try.prog 83 = some [Go.Value.slice none 0 0] := by kernel_rfl
theorem zds_83 : zds Try.prog 83 = some [.sl 1 []] := by kernel_rfl
theorem elt_83 : elt Try.prog 83 = some (31, 1) := by kernel_rfl
theorem apf_83 : apf Try.prog 83 = some (1, 24) := by kernel_rfl
theorem tyc_92 : tyc Try.prog 92 = some (false, 1) := by kernel_rfl
theorem zer_92 : zer Try.prog 92 = some [Go.Value.slice none 0 0] := by kernel_rfl
theorem zds_92 : zds Try.prog 92 = some [.sl 1 []] := by kernel_rfl
theorem elt_92 : elt Try.prog 92 = some (95, 1) := by kernel_rfl
theorem apf_92 : apf Try.prog 92 = some (1, 24) := by kernel_rfl
theorem tyc_95 : tyc Try.prog 95 = some (false, 1) := by kernel_rfl
theorem zer_95 : zer Try.prog 95 = some [Go.Value.slice none 0 0] := by kernel_rfl
theorem zds_95 : zds Try.prog 95 = some [.sl 1 []] := by kernel_rfl
theorem elt_95 : elt Try.prog 95 = some (4, 1) := by kernel_rfl
theorem apf_95 : apf Try.prog 95 = some (1, 24) := by kernel_rfl
theorem tyc_97 : tyc Try.prog 97 = some (true, 4) := by kernel_rfl
theorem zer_97 : zer Try.prog 97 = some [Go.Value.int Go.IntKind.i64 0, Go.Value.int Go.IntKind.i64 0, Go.Value.int Go.IntKind.i64 0, Go.Value.int Go.IntKind.i64 0] := by kernel_rfl
theorem zds_97 : zds Try.prog 97 = some [.v (Go.Value.int Go.IntKind.i64 0), .v (Go.Value.int Go.IntKind.i64 0), .v (Go.Value.int Go.IntKind.i64 0), .v (Go.Value.int Go.IntKind.i64 0)] := by kernel_rfl
theorem fld_97_0 : fld Try.prog 97 0 = some (0, 66) := by kernel_rfl
theorem fld_97_1 : fld Try.prog 97 1 = some (2, 66) := by kernel_rfl
theorem stf_97 : stf Try.prog 97 = some [(0, 2), (2, 2)] := by kernel_rfl
theorem arr_97 : arr Try.prog 97 = none := by kernel_rfl
theorem apf_97 : apf Try.prog 97 = some (4, 32) := by kernel_rfl
theorem tyc_98 : tyc Try.prog 98 = some (true, 4) := by kernel_rfl
theorem zer_98 : zer Try.prog 98 = some [Go.Value.int Go.IntKind.i64 0, Go.Value.int Go.IntKind.i64 0, Go.Value.int Go.IntKind.i64 0, Go.Value.int Go.IntKind.i64 0] := by kernel_rfl
theorem zds_98 : zds Try.prog 98 = some [.v (Go.Value.int Go.IntKind.i64 0), .v (Go.Value.int Go.IntKind.i64 0), .v (Go.Value.int Go.IntKind.i64 0), .v (Go.Value.int Go.IntKind.i64 0)] := by kernel_rfl
theorem fld_98_0 : fld Try.prog 98 0 = some (0, 66) := by kernel_rfl
theorem fld_98_1 : fld Try.prog 98 1 = some (2, 66) := by kernel_rfl
theorem stf_98 : stf Try.prog 98 = some [(0, 2), (2, 2)] := by kernel_rfl
theorem arr_98 : arr Try.prog 98 = none := by kernel_rfl
theorem apf_98 : apf Try.prog 98 = some (4, 32) := by kernel_rfl
theorem tyc_103 : tyc Try.prog 103 = some (false, 1) := by kernel_rfl
theorem zer_103 : zer Try.prog 103 = some [Go.Value.map none] := by kernel_rfl
theorem zds_103 : zds Try.prog 103 = some [.v (Go.Value.map none)] := by kernel_rfl
theorem mpt_103 : mpt Try.prog 103 = some (.i64, 39) := by kernel_rfl
theorem apf_103 : apf Try.prog 103 = some (1, 8) := by kernel_rfl
theorem tyc_110 : tyc Try.prog 110 = some (false, 1) := by kernel_rfl
theorem zer_110 : zer Try.prog 110 = some [Go.Value.slice none 0 0] := by kernel_rfl
theorem zds_110 : zds Try.prog 110 = some [.sl 1 []] := by kernel_rfl
theorem elt_110 : elt Try.prog 110 = some (73, 1) := by kernel_rfl
theorem apf_110 : apf Try.prog 110 = some (1, 24) := by kernel_rfl
theorem tyc_122 : tyc Try.prog 122 = some (true, 4) := by kernel_rfl
theorem zer_122 : zer Try.prog 122 = some [Go.Value.pointer none, Go.Value.pointer none, Go.Value.pointer none, Go.Value.string { data := #[] }] := by kernel_rfl
theorem zds_122 : zds Try.prog 122 = some [.v (Go.Value.pointer none), .v (Go.Value.pointer none), .v (Go.Value.pointer none), .v (Go.Value.string { data := #[] })] := by kernel_rfl
theorem fld_122_0 : fld Try.prog 122 0 = some (0, 17) := by kernel_rfl
theorem fld_122_1 : fld Try.prog 122 1 = some (1, 17) := by kernel_rfl
theorem fld_122_2 : fld Try.prog 122 2 = some (2, 17) := by kernel_rfl
theorem fld_122_3 : fld Try.prog 122 3 = some (3, 9) := by kernel_rfl
theorem stf_122 : stf Try.prog 122 = some [(0, 1), (1, 1), (2, 1), (3, 1)] := by kernel_rfl
theorem arr_122 : arr Try.prog 122 = none := by kernel_rfl
theorem apf_122 : apf Try.prog 122 = some (4, 40) := by kernel_rfl
theorem tyc_123 : tyc Try.prog 123 = some (true, 4) := by kernel_rfl
theorem zer_123 : zer Try.prog 123 = some [Go.Value.pointer none, Go.Value.pointer none, Go.Value.pointer none, Go.Value.string { data := #[] }] := by kernel_rfl
theorem zds_123 : zds Try.prog 123 = some [.v (Go.Value.pointer none), .v (Go.Value.pointer none), .v (Go.Value.pointer none), .v (Go.Value.string { data := #[] })] := by kernel_rfl
theorem fld_123_0 : fld Try.prog 123 0 = some (0, 17) := by kernel_rfl
theorem fld_123_1 : fld Try.prog 123 1 = some (1, 17) := by kernel_rfl
theorem fld_123_2 : fld Try.prog 123 2 = some (2, 17) := by kernel_rfl
theorem fld_123_3 : fld Try.prog 123 3 = some (3, 9) := by kernel_rfl
theorem stf_123 : stf Try.prog 123 = some [(0, 1), (1, 1), (2, 1), (3, 1)] := by kernel_rfl
theorem arr_123 : arr Try.prog 123 = none := by kernel_rfl
theorem apf_123 : apf Try.prog 123 = some (4, 40) := by kernel_rfl
theorem tyc_124 : tyc Try.prog 124 = some (true, 0) := by kernel_rfl
theorem zer_124 : zer Try.prog 124 = some [] := by kernel_rfl
theorem zds_124 : zds Try.prog 124 = some [] := by kernel_rfl
theorem arr_124 : arr Try.prog 124 = some (0, 16, 1) := by kernel_rfl
theorem stf_124 : stf Try.prog 124 = none := by kernel_rfl
theorem tyc_125 : tyc Try.prog 125 = some (true, 0) := by kernel_rfl
theorem zer_125 : zer Try.prog 125 = some [] := by kernel_rfl
theorem zds_125 : zds Try.prog 125 = some [] := by kernel_rfl
theorem stf_125 : stf Try.prog 125 = some [(0, 0)] := by kernel_rfl
theorem arr_125 : arr Try.prog 125 = none := by kernel_rfl
theorem tyc_126 : tyc Try.prog 126 = some (true, 0) := by kernel_rfl
theorem zer_126 : zer Try.prog 126 = some [] := by kernel_rfl
theorem zds_126 : zds Try.prog 126 = some [] := by kernel_rfl
theorem stf_126 : stf Try.prog 126 = some [(0, 0)] := by kernel_rfl
theorem arr_126 : arr Try.prog 126 = none := by kernel_rfl
theorem tyc_128 : tyc Try.prog 128 = some (false, 1) := by kernel_rfl
theorem zer_128 : zer Try.prog 128 = some [Go.Value.int Go.IntKind.u32 0] := by kernel_rfl
theorem zds_128 : zds Try.prog 128 = some [.v (Go.Value.int Go.IntKind.u32 0)] := by kernel_rfl
theorem und_128 : Try.prog.underlying 128 = some (.int .u32) := by kernel_rfl
theorem apf_128 : apf Try.prog 128 = some (1, 4) := by kernel_rfl
theorem tyc_129 : tyc Try.prog 129 = some (false, 1) := by kernel_rfl
theorem zer_129 : zer Try.prog 129 = some [Go.Value.int Go.IntKind.u8 0] := by kernel_rfl
theorem zds_129 : zds Try.prog 129 = some [.v (Go.Value.int Go.IntKind.u8 0)] := by kernel_rfl
theorem und_129 : Try.prog.underlying 129 = some (.int .u8) := by kernel_rfl
theorem apf_129 : apf Try.prog 129 = some (1, 1) := by kernel_rfl
theorem tyc_130 : tyc Try.prog 130 = some (false, 1) := by kernel_rfl
theorem zer_130 : zer Try.prog 130 = some [Go.Value.int Go.IntKind.u8 0] := by kernel_rfl
theorem zds_130 : zds Try.prog 130 = some [.v (Go.Value.int Go.IntKind.u8 0)] := by kernel_rfl
theorem und_130 : Try.prog.underlying 130 = some (.int .u8) := by kernel_rfl
theorem apf_130 : apf Try.prog 130 = some (1, 1) := by kernel_rfl
theorem tyc_132 : tyc Try.prog 132 = some (false, 1) := by kernel_rfl
theorem zer_132 : zer Try.prog 132 = some [Go.Value.pointer none] := by kernel_rfl
theorem zds_132 : zds Try.prog 132 = some [.v (Go.Value.pointer none)] := by kernel_rfl
theorem apf_132 : apf Try.prog 132 = some (1, 8) := by kernel_rfl
theorem tyc_133 : tyc Try.prog 133 = some (false, 1) := by kernel_rfl
theorem zer_133 : zer Try.prog 133 = some [Go.Value.int Go.IntKind.i32 0] := by kernel_rfl
theorem zds_133 : zds Try.prog 133 = some [.v (Go.Value.int Go.IntKind.i32 0)] := by kernel_rfl
theorem und_133 : Try.prog.underlying 133 = some (.int .i32) := by kernel_rfl
theorem apf_133 : apf Try.prog 133 = some (1, 4) := by kernel_rfl
theorem tyc_134 : tyc Try.prog 134 = some (false, 1) := by kernel_rfl
theorem zer_134 : zer Try.prog 134 = some [Go.Value.int Go.IntKind.i32 0] := by kernel_rfl
theorem zds_134 : zds Try.prog 134 = some [.v (Go.Value.int Go.IntKind.i32 0)] := by kernel_rfl
theorem und_134 : Try.prog.underlying 134 = some (.int .i32) := by kernel_rfl
theorem apf_134 : apf Try.prog 134 = some (1, 4) := by kernel_rfl
theorem tyc_135 : tyc Try.prog 135 = some (true, 11) := by kernel_rfl
theorem zer_135 : zer Try.prog 135 = some [Go.Value.int Go.IntKind.u64 0, Go.Value.int Go.IntKind.u64 0, Go.Value.int Go.IntKind.u32 0, Go.Value.int Go.IntKind.u8 0, Go.Value.int Go.IntKind.u8 0, Go.Value.int Go.IntKind.u8 0, Go.Value.int Go.IntKind.u8 0, Go.Value.nilFunc, Go.Value.pointer none, Go.Value.int Go.IntKind.i32 0, Go.Value.int Go.IntKind.i32 0] := by kernel_rfl
theorem zds_135 : zds Try.prog 135 = some [.v (Go.Value.int Go.IntKind.u64 0), .v (Go.Value.int Go.IntKind.u64 0), .v (Go.Value.int Go.IntKind.u32 0), .v (Go.Value.int Go.IntKind.u8 0), .v (Go.Value.int Go.IntKind.u8 0), .v (Go.Value.int Go.IntKind.u8 0), .v (Go.Value.int Go.IntKind.u8 0), .v (Go.Value.nilFunc), .v (Go.Value.pointer none), .v (Go.Value.int Go.IntKind.i32 0), .v (Go.Value.int Go.IntKind.i32 0)] := by kernel_rfl
theorem fld_135_0 : fld Try.prog 135 0 = some (0, 12) := by kernel_rfl
theorem fld_135_1 : fld Try.prog 135 1 = some (1, 12) := by kernel_rfl
theorem fld_135_2 : fld Try.prog 135 2 = some (2, 128) := by kernel_rfl
theorem fld_135_3 : fld Try.prog 135 3 = some (3, 129) := by kernel_rfl
theorem fld_135_4 : fld Try.prog 135 4 = some (4, 5) := by kernel_rfl
theorem fld_135_5 : fld Try.prog 135 5 = some (5, 5) := by kernel_rfl
theorem fld_135_6 : fld Try.prog 135 6 = some (6, 130) := by kernel_rfl
theorem fld_135_7 : fld Try.prog 135 7 = some (7, 131) := by kernel_rfl
theorem fld_135_8 : fld Try.prog 135 8 = some (8, 132) := by kernel_rfl
theorem fld_135_9 : fld Try.prog 135 9 = some (9, 133) := by kernel_rfl
theorem fld_135_10 : fld Try.prog 135 10 = some (10, 134) := by kernel_rfl
theorem stf_135 : stf Try.prog 135 = some [(0, 1), (1, 1), (2, 1), (3, 1), (4, 1), (5, 1), (6, 1), (7, 1), (8, 1), (9, 1), (10, 1)] := by kernel_rfl
theorem arr_135 : arr Try.prog 135 = none := by kernel_rfl
theorem apf_135 : apf Try.prog 135 = some (11, 48) := by kernel_rfl
theorem tyc_136 : tyc Try.prog 136 = some (true, 11) := by kernel_rfl
theorem zer_136 : zer Try.prog 136 = some [Go.Value.int Go.IntKind.u64 0, Go.Value.int Go.IntKind.u64 0, Go.Value.int Go.IntKind.u32 0, Go.Value.int Go.IntKind.u8 0, Go.Value.int Go.IntKind.u8 0, Go.Value.int Go.IntKind.u8 0, Go.Value.int Go.IntKind.u8 0, Go.Value.nilFunc, Go.Value.pointer none, Go.Value.int Go.IntKind.i32 0, Go.Value.int Go.IntKind.i32 0] := by kernel_rfl
theorem zds_136 : zds Try.prog 136 = some [.v (Go.Value.int Go.IntKind.u64 0), .v (Go.Value.int Go.IntKind.u64 0), .v (Go.Value.int Go.IntKind.u32 0), .v (Go.Value.int Go.IntKind.u8 0), .v (Go.Value.int Go.IntKind.u8 0), .v (Go.Value.int Go.IntKind.u8 0), .v (Go.Value.int Go.IntKind.u8 0), .v (Go.Value.nilFunc), .v (Go.Value.pointer none), .v (Go.Value.int Go.IntKind.i32 0), .v (Go.Value.int Go.IntKind.i32 0)] := by kernel_rfl
theorem fld_136_0 : fld Try.prog 136 0 = some (0, 12) := by kernel_rfl
theorem fld_136_1 : fld Try.prog 136 1 = some (1, 12) := by kernel_rfl
theorem fld_136_2 : fld Try.prog 136 2 = some (2, 128) := by kernel_rfl
theorem fld_136_3 : fld Try.prog 136 3 = some (3, 129) := by kernel_rfl
theorem fld_136_4 : fld Try.prog 136 4 = some (4, 5) := by kernel_rfl
theorem fld_136_5 : fld Try.prog 136 5 = some (5, 5) := by kernel_rfl
theorem fld_136_6 : fld Try.prog 136 6 = some (6, 130) := by kernel_rfl
theorem fld_136_7 : fld Try.prog 136 7 = some (7, 131) := by kernel_rfl
theorem fld_136_8 : fld Try.prog 136 8 = some (8, 132) := by kernel_rfl
theorem fld_136_9 : fld Try.prog 136 9 = some (9, 133) := by kernel_rfl
theorem fld_136_10 : fld Try.prog 136 10 = some (10, 134) := by kernel_rfl
theorem stf_136 : stf Try.prog 136 = some [(0, 1), (1, 1), (2, 1), (3, 1), (4, 1), (5, 1), (6, 1), (7, 1), (8, 1), (9, 1), (10, 1)] := by kernel_rfl
theorem arr_136 : arr Try.prog 136 = none := by kernel_rfl
theorem apf_136 : apf Try.prog 136 = some (11, 48) := by kernel_rfl
theorem zro_39 : zro Try.prog 39 = some (Go.Value.slice none 0 0) := by kernel_rfl
theorem fun_0 : Try.prog.funcs[0]? = some Try.f0 := by kernel_rfl
theorem fun_1 : Try.prog.funcs[1]? = some Try.f1 := by kernel_rfl
theorem fun_2 : Try.prog.funcs[2]? = some Try.f2 := by kernel_rfl
theorem fun_3 : Try.prog.funcs[3]? = some Try.f3 := by kernel_rfl
theorem fun_4 : Try.prog.funcs[4]? = some Try.f4 := by kernel_rfl
theorem fun_5 : Try.prog.funcs[5]? = some Try.f5 := by kernel_rfl
theorem fun_6 : Try.prog.funcs[6]? = some Try.f6 := by kernel_rfl
theorem fun_7 : Try.prog.funcs[7]? = some Try.f7 := by kernel_rfl
theorem fun_8 : Try.prog.funcs[8]? = some Try.f8 := by kernel_rfl
theorem fun_9 : Try.prog.funcs[9]? = some Try.f9 := by kernel_rfl
theorem fun_10 : Try.prog.funcs[10]? = some Try.f10 := by kernel_rfl
theorem fun_11 : Try.prog.funcs[11]? = some Try.f11 := by kernel_rfl
theorem fun_12 : Try.prog.funcs[12]? = some Try.f12 := by kernel_rfl
theorem fun_13 : Try.prog.funcs[13]? = some Try.f13 := by kernel_rfl
theorem fun_14 : Try.prog.funcs[14]? = some Try.f14 := by kernel_rfl
theorem fun_15 : Try.prog.funcs[15]? = some Try.f15 := by kernel_rfl
theorem fun_16 : Try.prog.funcs[16]? = some Try.f16 := by kernel_rfl
theorem fun_17 : Try.prog.funcs[17]? = some Try.f17 := by kernel_rfl
theorem fun_18 : Try.prog.funcs[18]? = some Try.f18 := by kernel_rfl
theorem fun_19 : Try.prog.funcs[19]? = some Try.f19 := by kernel_rfl
theorem fun_20 : Try.prog.funcs[20]? = some Try.f20 := by kernel_rfl
theorem fun_21 : Try.prog.funcs[21]? = some Try.f21 := by kernel_rfl
theorem fun_22 : Try.prog.funcs[22]? = some Try.f22 := by kernel_rfl
theorem fun_23 : Try.prog.funcs[23]? = some Try.f23 := by kernel_rfl
theorem fun_24 : Try.prog.funcs[24]? = some Try.f24 := by kernel_rfl
theorem fun_25 : Try.prog.funcs[25]? = some Try.f25 := by kernel_rfl
theorem fun_26 : Try.prog.funcs[26]? = some Try.f26 := by kernel_rfl
theorem fun_27 : Try.prog.funcs[27]? = some Try.f27 := by kernel_rfl
theorem fun_28 : Try.prog.funcs[28]? = some Try.f28 := by kernel_rfl
theorem fun_29 : Try.prog.funcs[29]? = some Try.f29 := by kernel_rfl
theorem fun_30 : Try.prog.funcs[30]? = some Try.f30 := by kernel_rfl
theorem fun_31 : Try.prog.funcs[31]? = some Try.f31 := by kernel_rfl
theorem fun_32 : Try.prog.funcs[32]? = some Try.f32 := by kernel_rfl
theorem fun_33 : Try.prog.funcs[33]? = some Try.f33 := by kernel_rfl
theorem fun_34 : Try.prog.funcs[34]? = some Try.f34 := by kernel_rfl
theorem fun_35 : Try.prog.funcs[35]? = some Try.f35 := by kernel_rfl
theorem fun_36 : Try.prog.funcs[36]? = some Try.f36 := by kernel_rfl
theorem fun_37 : Try.prog.funcs[37]? = some Try.f37 := by kernel_rfl
theorem fun_38 : Try.prog.funcs[38]? = some Try.f38 := by kernel_rfl
theorem fun_39 : Try.prog.funcs[39]? = some Try.f39 := by kernel_rfl
theorem fun_40 : Try.prog.funcs[40]? = some Try.f40 := by kernel_rfl
theorem fun_41 : Try.prog.funcs[41]? = some Try.f41 := by kernel_rfl
theorem fun_42 : Try.prog.funcs[42]? = some Try.f42 := by kernel_rfl
theorem fun_43 : Try.prog.funcs[43]? = some Try.f43 := by kernel_rfl
theorem fun_44 : Try.prog.funcs[44]? = some Try.f44 := by kernel_rfl
theorem fun_45 : Try.prog.funcs[45]? = some Try.f45 := by kernel_rfl
theorem fun_46 : Try.prog.funcs[46]? = some Try.f46 := by kernel_rfl
theorem fun_47 : Try.prog.funcs[47]? = some Try.f47 := by kernel_rfl
theorem fun_48 : Try.prog.funcs[48]? = some Try.f48 := by kernel_rfl
theorem fun_49 : Try.prog.funcs[49]? = some Try.f49 := by kernel_rfl
theorem fun_50 : Try.prog.funcs[50]? = some Try.f50 := by kernel_rfl
theorem fun_51 : Try.prog.funcs[51]? = some Try.f51 := by kernel_rfl
theorem fun_52 : Try.prog.funcs[52]? = some Try.f52 := by kernel_rfl
theorem fun_53 : Try.prog.funcs[53]? = some Try.f53 := by kernel_rfl
theorem fun_54 : Try.prog.funcs[54]? = some Try.f54 := by kernel_rfl
theorem fun_55 : Try.prog.funcs[55]? = some Try.f55 := by kernel_rfl
theorem fun_56 : Try.prog.funcs[56]? = some Try.f56 := by kernel_rfl
theorem fun_57 : Try.prog.funcs[57]? = some Try.f57 := by kernel_rfl
theorem fun_58 : Try.prog.funcs[58]? = some Try.f58 := by kernel_rfl
theorem fun_59 : Try.prog.funcs[59]? = some Try.f59 := by kernel_rfl
theorem fun_60 : Try.prog.funcs[60]? = some Try.f60 := by kernel_rfl
theorem fun_61 : Try.prog.funcs[61]? = some Try.f61 := by kernel_rfl
theorem fun_62 : Try.prog.funcs[62]? = some Try.f62 := by kernel_rfl
theorem fun_63 : Try.prog.funcs[63]? = some Try.f63 := by kernel_rfl
theorem fun_64 : Try.prog.funcs[64]? = some Try.f64 := by kernel_rfl
theorem fun_65 : Try.prog.funcs[65]? = some Try.f65 := by kernel_rfl
theorem fun_66 : Try.prog.funcs[66]? = some Try.f66 := by kernel_rfl
theorem fun_67 : Try.prog.funcs[67]? = some Try.f67 := by kernel_rfl
theorem fun_68 : Try.prog.funcs[68]? = some Try.f68 := by kernel_rfl
theorem fun_69 : Try.prog.funcs[69]? = some Try.f69 := by kernel_rfl
theorem fun_70 : Try.prog.funcs[70]? = some Try.f70 := by kernel_rfl
theorem fun_71 : Try.prog.funcs[71]? = some Try.f71 := by kernel_rfl
theorem fun_72 : Try.prog.funcs[72]? = some Try.f72 := by kernel_rfl
theorem fun_73 : Try.prog.funcs[73]? = some Try.f73 := by kernel_rfl
theorem fun_74 : Try.prog.funcs[74]? = some Try.f74 := by kernel_rfl
theorem fun_75 : Try.prog.funcs[75]? = some Try.f75 := by kernel_rfl
theorem fun_76 : Try.prog.funcs[76]? = some Try.f76 := by kernel_rfl
theorem fun_77 : Try.prog.funcs[77]? = some Try.f77 := by kernel_rfl
theorem fun_78 : Try.prog.funcs[78]? = some Try.f78 := by kernel_rfl
theorem fun_79 : Try.prog.funcs[79]? = some Try.f79 := by kernel_rfl
theorem fun_80 : Try.prog.funcs[80]? = some Try.f80 := by kernel_rfl
theorem fun_81 : Try.prog.funcs[81]? = some Try.f81 := by kernel_rfl
theorem fun_82 : Try.prog.funcs[82]? = some Try.f82 := by kernel_rfl
theorem fun_83 : Try.prog.funcs[83]? = some Try.f83 := by kernel_rfl
theorem fun_84 : Try.prog.funcs[84]? = some Try.f84 := by kernel_rfl
theorem fun_85 : Try.prog.funcs[85]? = some Try.f85 := by kernel_rfl
theorem fun_86 : Try.prog.funcs[86]? = some Try.f86 := by kernel_rfl
theorem fun_87 : Try.prog.funcs[87]? = some Try.f87 := by kernel_rfl
theorem fun_88 : Try.prog.funcs[88]? = some Try.f88 := by kernel_rfl
theorem fun_89 : Try.prog.funcs[89]? = some Try.f89 := by kernel_rfl
theorem fun_90 : Try.prog.funcs[90]? = some Try.f90 := by kernel_rfl
theorem fun_91 : Try.prog.funcs[91]? = some Try.f91 := by kernel_rfl
theorem fun_92 : Try.prog.funcs[92]? = some Try.f92 := by kernel_rfl
theorem fun_93 : Try.prog.funcs[93]? = some Try.f93 := by kernel_rfl
theorem fun_94 : Try.prog.funcs[94]? = some Try.f94 := by kernel_rfl
def fA0 := (And.intro (And.intro (And.intro (And.intro (And.intro (And.intro (And.intro (And.intro @tyc_2 (And.intro @zer_2 @zds_2)) (And.intro @und_2 (And.intro @apf_2 @tyc_3))) (And.intro (And.intro @zer_3 (And.intro @zds_3 @und_3)) (And.intro (And.intro @apf_3 @tyc_4) (And.intro @zer_4 @zds_4)))) (And.intro (And.intro (And.intro @und_4 (And.intro @apf_4 @tyc_5)) (And.intro @zer_5 (And.intro @zds_5 @und_5))) (And.intro (And.intro @apf_5 (And.intro @tyc_6 @zer_6)) (And.intro (And.intro @zds_6 @und_6) (And.intro @apf_6 @tyc_7))))) (And.intro (And.intro (And.intro (And.intro @zer_7 (And.intro @zds_7 @fld_7_0)) (And.intro @fld_7_1 (And.intro @fld_7_2 @fld_7_3))) (And.intro (And.intro @stf_7 (And.intro @arr_7 @apf_7)) (And.intro (And.intro @tyc_8 @zer_8) (And.intro @zds_8 @fld_8_0)))) (And.intro (And.intro (And.intro @fld_8_1 (And.intro @fld_8_2 @fld_8_3)) (And.intro @stf_8 (And.intro @arr_8 @apf_8))) (And.intro (And.intro @tyc_9 (And.intro @zer_9 @zds_9)) (And.intro (And.intro @apf_9 @tyc_10) (And.intro @zer_10 @zds_10)))))) (And.intro (And.intro (And.intro (And.intro (And.intro @apf_10 (And.intro @tyc_11 @zer_11)) (And.intro @zds_11 (And.intro @apf_11 @tyc_12))) (And.intro (And.intro @zer_12 (And.intro @zds_12 @und_12)) (And.intro (And.intro @apf_12 @tyc_13) (And.intro @zer_13 @zds_13)))) (And.intro (And.intro (And.intro @fld_13_0 (And.intro @fld_13_1 @stf_13)) (And.intro @arr_13 (And.intro @apf_13 @tyc_14))) (And.intro (And.intro @zer_14 (And.intro @zds_14 @fld_14_0)) (And.intro (And.intro @fld_14_1 @stf_14) (And.intro @arr_14 @apf_14))))) (And.intro (And.intro (And.intro (And.intro @tyc_15 (And.intro @zer_15 @zds_15)) (And.intro @apf_15 (And.intro @tyc_16 @zer_16))) (And.intro (And.intro @zds_16 (And.intro @apf_16 @tyc_17)) (And.intro (And.intro @zer_17 @zds_17) (And.intro @apf_17 @tyc_18)))) (And.intro (And.intro (And.intro @zer_18 (And.intro @zds_18 @fld_18_0)) (And.intro (And.intro @stf_18 @arr_18) (And.intro @apf_18 @tyc_19))) (And.intro (And.intro @zer_19 (And.intro @zds_19 @fld_19_0)) (And.intro (And.intro @stf_19 @arr_19) (And.intro @apf_19 @tyc_21))))))) (And.intro (And.intro (And.intro (And.intro (And.intro (And.intro @zer_21 (And.intro @zds_21 @und_21)) (And.intro @apf_21 (And.intro @tyc_22 @zer_22))) (And.intro (And.intro @zds_22 (And.intro @elt_22 @apf_22)) (And.intro (And.intro @tyc_23 @zer_23) (And.intro @zds_23 @elt_23)))) (And.intro (And.intro (And.intro @apf_23 (And.intro @tyc_24 @zer_24)) (And.intro @zds_24 (And.intro @fld_24_0 @fld_24_1))) (And.intro (And.intro @fld_24_2 (And.intro @fld_24_3 @stf_24)) (And.intro (And.intro @arr_24 @apf_24) (And.intro @tyc_25 @zer_25))))) (And.intro (And.intro (And.intro (And.intro @zds_25 (And.intro @fld_25_0 @fld_25_1)) (And.intro @fld_25_2 (And.intro @fld_25_3 @stf_25))) (And.intro (And.intro @arr_25 (And.intro @apf_25 @tyc_26)) (And.intro (And.intro @zer_26 @zds_26) (And.intro @fld_26_0 @fld_26_1)))) (And.intro (And.intro (And.intro @fld_26_2 (And.intro @fld_26_3 @stf_26)) (And.intro (And.intro @arr_26 @apf_26) (And.intro @tyc_27 @zer_27))) (And.intro (And.intro @zds_27 (And.intro @fld_27_0 @fld_27_1)) (And.intro (And.intro @fld_27_2 @fld_27_3) (And.intro @stf_27 @arr_27)))))) (And.intro (And.intro (And.intro (And.intro (And.intro @apf_27 (And.intro @tyc_31 @zer_31)) (And.intro @zds_31 (And.intro @elt_31 @apf_31))) (And.intro (And.intro @tyc_32 (And.intro @zer_32 @zds_32)) (And.intro (And.intro @und_32 @apf_32) (And.intro @tyc_39 @zer_39)))) (And.intro (And.intro (And.intro @zds_39 (And.intro @elt_39 @apf_39)) (And.intro @tyc_40 (And.intro @zer_40 @zds_40))) (And.intro (And.intro @fld_40_0 (And.intro @fld_40_1 @fld_40_2)) (And.intro (And.intro @stf_40 @arr_40) (And.intro @apf_40 @tyc_41))))) (And.intro (And.intro (And.intro (And.intro @zer_41 (And.intro @zds_41 @fld_41_0)) (And.intro @fld_41_1 (And.intro @fld_41_2 @stf_41))) (And.intro (And.intro @arr_41 (And.intro @apf_41 @tyc_65)) (And.intro (And.intro @zer_65 @zds_65) (And.intro @fld_65_0 @fld_65_1)))) (And.intro (And.intro (And.intro @stf_65 (And.intro @arr_65 @apf_65)) (And.intro (And.intro @tyc_66 @zer_66) (And.intro @zds_66 @fld_66_0))) (And.intro (And.intro @fld_66_1 (And.intro @stf_66 @arr_66)) (And.intro (And.intro @apf_66 @tyc_69) (And.intro @zer_69 @zds_69)))))))) (And.intro (And.intro (And.intro (And.intro (And.intro (And.intro (And.intro @fld_69_0 (And.intro @fld_69_1 @fld_69_2)) (And.intro @stf_69 (And.intro @arr_69 @apf_69))) (And.intro (And.intro @tyc_70 (And.intro @zer_70 @zds_70)) (And.intro (And.intro @fld_70_0 @fld_70_1) (And.intro @fld_70_2 @stf_70)))) (And.intro (And.intro (And.intro @arr_70 (And.intro @apf_70 @tyc_73)) (And.intro @zer_73 (And.intro @zds_73 @elt_73))) (And.intro (And.intro @apf_73 (And.intro @tyc_74 @zer_74)) (And.intro (And.intro @zds_74 @fld_74_0) (And.intro @fld_74_1 @fld_74_2))))) (And.intro (And.intro (And.intro (And.intro @stf_74 (And.intro @arr_74 @apf_74)) (And.intro @tyc_75 (And.intro @zer_75 @zds_75))) (And.intro (And.intro @fld_75_0 (And.intro @fld_75_1 @fld_75_2)) (And.intro (And.intro @stf_75 @arr_75) (And.intro @apf_75 @tyc_78)))) (And.intro (And.intro (And.intro @zer_78 (And.intro @zds_78 @fld_78_0)) (And.intro (And.intro @fld_78_1 @fld_78_2) (And.intro @stf_78 @arr_78))) (And.intro (And.intro @apf_78 (And.intro @tyc_79 @zer_79)) (And.intro (And.intro @zds_79 @fld_79_0) (And.intro @fld_79_1 @fld_79_2)))))) (And.intro (And.intro (And.intro (And.intro (And.intro @stf_79 (And.intro @arr_79 @apf_79)) (And.intro @tyc_81 (And.intro @zer_81 @zds_81))) (And.intro (And.intro @fld_81_0 (And.intro @fld_81_1 @stf_81)) (And.intro (And.intro @arr_81 @apf_81) (And.intro @tyc_82 @zer_82)))) (And.intro (And.intro (And.intro @zds_82 (And.intro @fld_82_0 @fld_82_1)) (And.intro @stf_82 (And.intro @arr_82 @apf_82))) (And.intro (And.intro @tyc_83 (And.intro @zer_83 @zds_83)) (And.intro (And.intro @elt_83 @apf_83) (And.intro @tyc_92 @zer_92))))) (And.intro (And.intro (And.intro (And.intro @zds_92 (And.intro @elt_92 @apf_92)) (And.intro @tyc_95 (And.intro @zer_95 @zds_95))) (And.intro (And.intro @elt_95 (And.intro @apf_95 @tyc_97)) (And.intro (And.intro @zer_97 @zds_97) (And.intro @fld_97_0 @fld_97_1)))) (And.intro (And.intro (And.intro @stf_97 (And.intro @arr_97 @apf_97)) (And.intro (And.intro @tyc_98 @zer_98) (And.intro @zds_98 @fld_98_0))) (And.intro (And.intro @fld_98_1 (And.intro @stf_98 @arr_98)) (And.intro (And.intro @apf_98 @tyc_103) (And.intro @zer_103 @zds_103))))))) (And.intro (And.intro (And.intro (And.intro (And.intro (And.intro @mpt_103 (And.intro @apf_103 @tyc_110)) (And.intro @zer_110 (And.intro @zds_110 @elt_110))) (And.intro (And.intro @apf_110 (And.intro @tyc_122 @zer_122)) (And.intro (And.intro @zds_122 @fld_122_0) (And.intro @fld_122_1 @fld_122_2)))) (And.intro (And.intro (And.intro @fld_122_3 (And.intro @stf_122 @arr_122)) (And.intro @apf_122 (And.intro @tyc_123 @zer_123))) (And.intro (And.intro @zds_123 (And.intro @fld_123_0 @fld_123_1)) (And.intro (And.intro @fld_123_2 @fld_123_3) (And.intro @stf_123 @arr_123))))) (And.intro (And.intro (And.intro (And.intro @apf_123 (And.intro @tyc_124 @zer_124)) (And.intro @zds_124 (And.intro @arr_124 @stf_124))) (And.intro (And.intro @tyc_125 (And.intro @zer_125 @zds_125)) (And.intro (And.intro @stf_125 @arr_125) (And.intro @tyc_126 @zer_126)))) (And.intro (And.intro (And.intro @zds_126 (And.intro @stf_126 @arr_126)) (And.intro (And.intro @tyc_128 @zer_128) (And.intro @zds_128 @und_128))) (And.intro (And.intro @apf_128 (And.intro @tyc_129 @zer_129)) (And.intro (And.intro @zds_129 @und_129) (And.intro @apf_129 @tyc_130)))))) (And.intro (And.intro (And.intro (And.intro (And.intro @zer_130 (And.intro @zds_130 @und_130)) (And.intro @apf_130 (And.intro @tyc_132 @zer_132))) (And.intro (And.intro @zds_132 (And.intro @apf_132 @tyc_133)) (And.intro (And.intro @zer_133 @zds_133) (And.intro @und_133 @apf_133)))) (And.intro (And.intro (And.intro @tyc_134 (And.intro @zer_134 @zds_134)) (And.intro @und_134 (And.intro @apf_134 @tyc_135))) (And.intro (And.intro @zer_135 (And.intro @zds_135 @fld_135_0)) (And.intro (And.intro @fld_135_1 @fld_135_2) (And.intro @fld_135_3 @fld_135_4))))) (And.intro (And.intro (And.intro (And.intro @fld_135_5 (And.intro @fld_135_6 @fld_135_7)) (And.intro @fld_135_8 (And.intro @fld_135_9 @fld_135_10))) (And.intro (And.intro @stf_135 (And.intro @arr_135 @apf_135)) (And.intro (And.intro @tyc_136 @zer_136) (And.intro @zds_136 @fld_136_0)))) (And.intro (And.intro (And.intro @fld_136_1 (And.intro @fld_136_2 @fld_136_3)) (And.intro (And.intro @fld_136_4 @fld_136_5) (And.intro @fld_136_6 @fld_136_7))) (And.intro (And.intro @fld_136_8 (And.intro @fld_136_9 @fld_136_10)) (And.intro (And.intro @stf_136 @arr_136) (And.intro @apf_136 @zro_39)))))))))
theorem fA : type_of% fA0 := fA0
end Go.Proofs.Ytiohnfpnaegfaaa.Ab
