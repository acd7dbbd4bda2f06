/- Facts of the seat: its types and its functions, by number. -/
import Derived.Test.YtninkfpeeemcoaaZAbV
import Derived.Test.YtninkfpeeemcoaaProg
import Derived.KernelRfl
namespace Go.Proofs.Ytninkfpeeemcoaa.Ab
open Go Go.RowKit
set_option linter.defProp false
theorem tyc_1 : tyc Try.prog 1 = some (false, 1) := by kernel_rfl
theorem zer_1 : zer Try.prog 1 = some [Go.Value.nilFunc] := by kernel_rfl
theorem tyc_2 : tyc Try.prog 2 = some (false, 1) := by kernel_rfl
theorem zer_2 : zer Try.prog 2 = some [Go.Value.int Go.IntKind.i64 0] := by kernel_rfl
theorem zds_2 : zds Try.prog 2 = some [.v (Go.Value.int Go.IntKind.i64 0)] := by kernel_rfl
theorem und_2 : Try.prog.underlying 2 = some (.int .i64) := by kernel_rfl
theorem apf_2 : apf Try.prog 2 = some (1, 8) := by kernel_rfl
theorem tyc_3 : tyc Try.prog 3 = some (false, 1) := by kernel_rfl
theorem zer_3 : zer Try.prog 3 = some [Go.Value.int Go.IntKind.i64 0] := by kernel_rfl
theorem zds_3 : zds Try.prog 3 = some [.v (Go.Value.int Go.IntKind.i64 0)] := by kernel_rfl
theorem und_3 : Try.prog.underlying 3 = some (.int .i64) := by kernel_rfl
theorem apf_3 : apf Try.prog 3 = some (1, 8) := by kernel_rfl
theorem tyc_4 : tyc Try.prog 4 = some (false, 1) := by kernel_rfl
theorem zer_4 : zer Try.prog 4 = some [Go.Value.bool false] := by kernel_rfl
theorem zds_4 : zds Try.prog 4 = some [.v (Go.Value.bool false)] := by kernel_rfl
theorem und_4 : Try.prog.underlying 4 = some .bool := by kernel_rfl
theorem apf_4 : apf Try.prog 4 = some (1, 1) := by kernel_rfl
theorem tyc_5 : tyc Try.prog 5 = some (false, 1) := by kernel_rfl
theorem zer_5 : zer Try.prog 5 = some [Go.Value.int Go.IntKind.u8 0] := by kernel_rfl
theorem zds_5 : zds Try.prog 5 = some [.v (Go.Value.int Go.IntKind.u8 0)] := by kernel_rfl
theorem und_5 : Try.prog.underlying 5 = some (.int .u8) := by kernel_rfl
theorem apf_5 : apf Try.prog 5 = some (1, 1) := by kernel_rfl
theorem tyc_6 : tyc Try.prog 6 = some (false, 1) := by kernel_rfl
theorem zer_6 : zer Try.prog 6 = some [Go.Value.int Go.IntKind.u8 0] := by kernel_rfl
theorem zds_6 : zds Try.prog 6 = some [.v (Go.Value.int Go.IntKind.u8 0)] := by kernel_rfl
theorem und_6 : Try.prog.underlying 6 = some (.int .u8) := by kernel_rfl
theorem apf_6 : apf Try.prog 6 = some (1, 1) := by kernel_rfl
theorem tyc_7 : tyc Try.prog 7 = some (true, 4) := by kernel_rfl
theorem zer_7 : zer Try.prog 7 = some [Go.Value.int Go.IntKind.i64 0, Go.Value.int Go.IntKind.i64 0, Go.Value.bool false, Go.Value.int Go.IntKind.u8 0] := by kernel_rfl
theorem zds_7 : zds Try.prog 7 = some [.v (Go.Value.int Go.IntKind.i64 0), .v (Go.Value.int Go.IntKind.i64 0), .v (Go.Value.bool false), .v (Go.Value.int Go.IntKind.u8 0)] := by kernel_rfl
theorem fld_7_0 : fld Try.prog 7 0 = some (0, 2) := by kernel_rfl
theorem fld_7_1 : fld Try.prog 7 1 = some (1, 3) := by kernel_rfl
theorem fld_7_2 : fld Try.prog 7 2 = some (2, 4) := by kernel_rfl
theorem fld_7_3 : fld Try.prog 7 3 = some (3, 6) := by kernel_rfl
theorem stf_7 : stf Try.prog 7 = some [(0, 1), (1, 1), (2, 1), (3, 1)] := by kernel_rfl
theorem arr_7 : arr Try.prog 7 = none := by kernel_rfl
theorem apf_7 : apf Try.prog 7 = some (4, 24) := by kernel_rfl
theorem tyc_8 : tyc Try.prog 8 = some (true, 4) := by kernel_rfl
theorem zer_8 : zer Try.prog 8 = some [Go.Value.int Go.IntKind.i64 0, Go.Value.int Go.IntKind.i64 0, Go.Value.bool false, Go.Value.int Go.IntKind.u8 0] := by kernel_rfl
theorem zds_8 : zds Try.prog 8 = some [.v (Go.Value.int Go.IntKind.i64 0), .v (Go.Value.int Go.IntKind.i64 0), .v (Go.Value.bool false), .v (Go.Value.int Go.IntKind.u8 0)] := by kernel_rfl
theorem fld_8_0 : fld Try.prog 8 0 = some (0, 2) := by kernel_rfl
theorem fld_8_1 : fld Try.prog 8 1 = some (1, 3) := by kernel_rfl
theorem fld_8_2 : fld Try.prog 8 2 = some (2, 4) := by kernel_rfl
theorem fld_8_3 : fld Try.prog 8 3 = some (3, 6) := by kernel_rfl
theorem stf_8 : stf Try.prog 8 = some [(0, 1), (1, 1), (2, 1), (3, 1)] := by kernel_rfl
theorem arr_8 : arr Try.prog 8 = none := by kernel_rfl
theorem apf_8 : apf Try.prog 8 = some (4, 24) := by kernel_rfl
theorem tyc_9 : tyc Try.prog 9 = some (false, 1) := by kernel_rfl
theorem zer_9 : zer Try.prog 9 = some [Go.Value.string { data := #[] }] := by kernel_rfl
theorem zds_9 : zds Try.prog 9 = some [.v (Go.Value.string { data := #[] })] := by kernel_rfl
theorem apf_9 : apf Try.prog 9 = some (1, 16) := by kernel_rfl
theorem tyc_10 : tyc Try.prog 10 = some (false, 1) := by kernel_rfl
theorem zer_10 : zer Try.prog 10 = some [Go.Value.string { data := #[] }] := by kernel_rfl
theorem zds_10 : zds Try.prog 10 = some [.v (Go.Value.string { data := #[] })] := by kernel_rfl
theorem apf_10 : apf Try.prog 10 = some (1, 16) := by kernel_rfl
theorem tyc_11 : tyc Try.prog 11 = some (false, 1) := by kernel_rfl
theorem zer_11 : zer Try.prog 11 = some [Go.Value.string { data := #[] }] := by kernel_rfl
theorem zds_11 : zds Try.prog 11 = some [.v (Go.Value.string { data := #[] })] := by kernel_rfl
theorem apf_11 : apf Try.prog 11 = some (1, 16) := by kernel_rfl
theorem tyc_12 : tyc Try.prog 12 = some (false, 1) := by kernel_rfl
theorem zer_12 : zer Try.prog 12 = some [Go.Value.int Go.IntKind.u64 0] := by kernel_rfl
theorem zds_12 : zds Try.prog 12 = some [.v (Go.Value.int Go.IntKind.u64 0)] := by kernel_rfl
theorem und_12 : Try.prog.underlying 12 = some (.int .u64) := by kernel_rfl
theorem apf_12 : apf Try.prog 12 = some (1, 8) := by kernel_rfl
theorem tyc_13 : tyc Try.prog 13 = some (true, 2) := by kernel_rfl
theorem zer_13 : zer Try.prog 13 = some [Go.Value.string { data := #[] }, Go.Value.int Go.IntKind.u64 0] := by kernel_rfl
theorem zds_13 : zds Try.prog 13 = some [.v (Go.Value.string { data := #[] }), .v (Go.Value.int Go.IntKind.u64 0)] := by kernel_rfl
theorem fld_13_0 : fld Try.prog 13 0 = some (0, 9) := by kernel_rfl
theorem fld_13_1 : fld Try.prog 13 1 = some (1, 12) := by kernel_rfl
theorem stf_13 : stf Try.prog 13 = some [(0, 1), (1, 1)] := by kernel_rfl
theorem arr_13 : arr Try.prog 13 = none := by kernel_rfl
theorem apf_13 : apf Try.prog 13 = some (2, 24) := by kernel_rfl
theorem tyc_14 : tyc Try.prog 14 = some (true, 2) := by kernel_rfl
theorem zer_14 : zer Try.prog 14 = some [Go.Value.string { data := #[] }, Go.Value.int Go.IntKind.u64 0] := by kernel_rfl
theorem zds_14 : zds Try.prog 14 = some [.v (Go.Value.string { data := #[] }), .v (Go.Value.int Go.IntKind.u64 0)] := by kernel_rfl
theorem fld_14_0 : fld Try.prog 14 0 = some (0, 9) := by kernel_rfl
theorem fld_14_1 : fld Try.prog 14 1 = some (1, 12) := by kernel_rfl
theorem stf_14 : stf Try.prog 14 = some [(0, 1), (1, 1)] := by kernel_rfl
theorem arr_14 : arr Try.prog 14 = none := by kernel_rfl
theorem apf_14 : apf Try.prog 14 = some (2, 24) := by kernel_rfl
theorem tyc_15 : tyc Try.prog 15 = some (false, 1) := by kernel_rfl
theorem zer_15 : zer Try.prog 15 = some [Go.Value.pointer none] := by kernel_rfl
theorem zds_15 : zds Try.prog 15 = some [.v (Go.Value.pointer none)] := by kernel_rfl
theorem apf_15 : apf Try.prog 15 = some (1, 8) := by kernel_rfl
theorem tyc_16 : tyc Try.prog 16 = some (false, 1) := by kernel_rfl
theorem zer_16 : zer Try.prog 16 = some [Go.Value.pointer none] := by kernel_rfl
theorem zds_16 : zds Try.prog 16 = some [.v (Go.Value.pointer none)] := by kernel_rfl
theorem apf_16 : apf Try.prog 16 = some (1, 8) := by kernel_rfl
theorem tyc_17 : tyc Try.prog 17 = some (false, 1) := by kernel_rfl
theorem zer_17 : zer Try.prog 17 = some [Go.Value.pointer none] := by kernel_rfl
theorem zds_17 : zds Try.prog 17 = some [.v (Go.Value.pointer none)] := by kernel_rfl
theorem apf_17 : apf Try.prog 17 = some (1, 8) := by kernel_rfl
theorem tyc_18 : tyc Try.prog 18 = some (true, 1) := by kernel_rfl
theorem zer_18 : zer Try.prog 18 = some [Go.Value.pointer none] := by kernel_rfl
theorem zds_18 : zds Try.prog 18 = some [.v (Go.Value.pointer none)] := by kernel_rfl
theorem fld_18_0 : fld Try.prog 18 0 = some (0, 17) := by kernel_rfl
theorem stf_18 : stf Try.prog 18 = some [(0, 1)] := by kernel_rfl
theorem arr_18 : arr Try.prog 18 = none := by kernel_rfl
theorem apf_18 : apf Try.prog 18 = some (1, 8) := by kernel_rfl
theorem tyc_19 : tyc Try.prog 19 = some (true, 1) := by kernel_rfl
theorem zer_19 : zer Try.prog 19 = some [Go.Value.pointer none] := by kernel_rfl
theorem zds_19 : zds Try.prog 19 = some [.v (Go.Value.pointer none)] := by kernel_rfl
theorem fld_19_0 : fld Try.prog 19 0 = some (0, 17) := by kernel_rfl
theorem stf_19 : stf Try.prog 19 = some [(0, 1)] := by kernel_rfl
theorem arr_19 : arr Try.prog 19 = none := by kernel_rfl
theorem apf_19 : apf Try.prog 19 = some (1, 8) := by kernel_rfl
theorem tyc_21 : tyc Try.prog 21 = some (false, 1) := by kernel_rfl
theorem zer_21 : zer Try.prog 21 = some [Go.Value.int Go.IntKind.i32 0] := by kernel_rfl
theorem zds_21 : zds Try.prog 21 = some [.v (Go.Value.int Go.IntKind.i32 0)] := by kernel_rfl
theorem und_21 : Try.prog.underlying 21 = some (.int .i32) := by kernel_rfl
theorem apf_21 : apf Try.prog 21 = some (1, 4) := by kernel_rfl
theorem tyc_22 : tyc Try.prog 22 = some (true, 6) := by kernel_rfl
theorem zer_22 : zer Try.prog 22 = some [Go.Value.int Go.IntKind.u8 0, Go.Value.int Go.IntKind.u8 0, Go.Value.int Go.IntKind.u8 0, Go.Value.int Go.IntKind.u8 0, Go.Value.int Go.IntKind.u8 0, Go.Value.int Go.IntKind.u8 0] := by kernel_rfl
theorem zds_22 : zds Try.prog 22 = some [.v (Go.Value.int Go.IntKind.u8 0), .v (Go.Value.int Go.IntKind.u8 0), .v (Go.Value.int Go.IntKind.u8 0), .v (Go.Value.int Go.IntKind.u8 0), .v (Go.Value.int Go.IntKind.u8 0), .v (Go.Value.int Go.IntKind.u8 0)] := by kernel_rfl
theorem arr_22 : arr Try.prog 22 = some (6, 5, 1) := by kernel_rfl
theorem stf_22 : stf Try.prog 22 = none := by kernel_rfl
theorem apf_22 : apf Try.prog 22 = some (6, 6) := by kernel_rfl
theorem tyc_23 : tyc Try.prog 23 = some (false, 1) := by kernel_rfl
theorem zer_23 : zer Try.prog 23 = some [Go.Value.slice none 0 0] := by kernel_rfl
theorem zds_23 : zds Try.prog 23 = some [.sl 4 []] := by kernel_rfl
theorem elt_23 : elt Try.prog 23 = some (70, 4) := by kernel_rfl
theorem apf_23 : apf Try.prog 23 = some (1, 24) := by kernel_rfl
theorem tyc_24 : tyc Try.prog 24 = some (true, 7) := by kernel_rfl
theorem zer_24 : zer Try.prog 24 = some [Go.Value.int Go.IntKind.u8 0, Go.Value.int Go.IntKind.u8 0, Go.Value.int Go.IntKind.u8 0, Go.Value.int Go.IntKind.u8 0, Go.Value.int Go.IntKind.u8 0, Go.Value.int Go.IntKind.u8 0, Go.Value.slice none 0 0] := by kernel_rfl
theorem zds_24 : zds Try.prog 24 = some [.v (Go.Value.int Go.IntKind.u8 0), .v (Go.Value.int Go.IntKind.u8 0), .v (Go.Value.int Go.IntKind.u8 0), .v (Go.Value.int Go.IntKind.u8 0), .v (Go.Value.int Go.IntKind.u8 0), .v (Go.Value.int Go.IntKind.u8 0), .v (Go.Value.slice none 0 0)] := by kernel_rfl
theorem fld_24_0 : fld Try.prog 24 0 = some (0, 22) := by kernel_rfl
theorem fld_24_1 : fld Try.prog 24 1 = some (6, 23) := by kernel_rfl
theorem stf_24 : stf Try.prog 24 = some [(0, 6), (6, 1)] := by kernel_rfl
theorem arr_24 : arr Try.prog 24 = none := by kernel_rfl
theorem apf_24 : apf Try.prog 24 = some (7, 32) := by kernel_rfl
theorem tyc_25 : tyc Try.prog 25 = some (true, 7) := by kernel_rfl
theorem zer_25 : zer Try.prog 25 = some [Go.Value.int Go.IntKind.u8 0, Go.Value.int Go.IntKind.u8 0, Go.Value.int Go.IntKind.u8 0, Go.Value.int Go.IntKind.u8 0, Go.Value.int Go.IntKind.u8 0, Go.Value.int Go.IntKind.u8 0, Go.Value.slice none 0 0] := by kernel_rfl
theorem zds_25 : zds Try.prog 25 = some [.v (Go.Value.int Go.IntKind.u8 0), .v (Go.Value.int Go.IntKind.u8 0), .v (Go.Value.int Go.IntKind.u8 0), .v (Go.Value.int Go.IntKind.u8 0), .v (Go.Value.int Go.IntKind.u8 0), .v (Go.Value.int Go.IntKind.u8 0), .v (Go.Value.slice none 0 0)] := by kernel_rfl
theorem fld_25_0 : fld Try.prog 25 0 = some (0, 22) := by kernel_rfl
theorem fld_25_1 : fld Try.prog 25 1 = some (6, 23) := by kernel_rfl
theorem stf_25 : stf Try.prog 25 = some [(0, 6), (6, 1)] := by kernel_rfl
theorem arr_25 : arr Try.prog 25 = none := by kernel_rfl
theorem apf_25 : apf Try.prog 25 = some (7, 32) := by kernel_rfl
theorem tyc_26 : tyc Try.prog 26 = some (false, 1) := by kernel_rfl
theorem zer_26 : zer Try.prog 26 = some [Go.Value.slice none 0 0] := by kernel_rfl
theorem zds_26 : zds Try.prog 26 = some [.sl 1 []] := by kernel_rfl
theorem elt_26 : elt Try.prog 26 = some (5, 1) := by kernel_rfl
theorem apf_26 : apf Try.prog 26 = some (1, 24) := by kernel_rfl
theorem tyc_27 : tyc Try.prog 27 = some (false, 1) := by kernel_rfl
theorem zer_27 : zer Try.prog 27 = some [Go.Value.slice none 0 0] := by kernel_rfl
theorem zds_27 : zds Try.prog 27 = some [.sl 2 []] := by kernel_rfl
theorem elt_27 : elt Try.prog 27 = some (47, 2) := by kernel_rfl
theorem apf_27 : apf Try.prog 27 = some (1, 24) := by kernel_rfl
theorem tyc_28 : tyc Try.prog 28 = some (false, 1) := by kernel_rfl
theorem zer_28 : zer Try.prog 28 = some [Go.Value.slice none 0 0] := by kernel_rfl
theorem zds_28 : zds Try.prog 28 = some [.sl 1 []] := by kernel_rfl
theorem elt_28 : elt Try.prog 28 = some (3, 1) := by kernel_rfl
theorem apf_28 : apf Try.prog 28 = some (1, 24) := by kernel_rfl
theorem tyc_29 : tyc Try.prog 29 = some (true, 3) := by kernel_rfl
theorem zer_29 : zer Try.prog 29 = some [Go.Value.int Go.IntKind.i64 0, Go.Value.slice none 0 0, Go.Value.slice none 0 0] := by kernel_rfl
theorem zds_29 : zds Try.prog 29 = some [.v (Go.Value.int Go.IntKind.i64 0), .v (Go.Value.slice none 0 0), .v (Go.Value.slice none 0 0)] := by kernel_rfl
theorem fld_29_0 : fld Try.prog 29 0 = some (0, 3) := by kernel_rfl
theorem fld_29_1 : fld Try.prog 29 1 = some (1, 27) := by kernel_rfl
theorem fld_29_2 : fld Try.prog 29 2 = some (2, 28) := by kernel_rfl
theorem stf_29 : stf Try.prog 29 = some [(0, 1), (1, 1), (2, 1)] := by kernel_rfl
theorem arr_29 : arr Try.prog 29 = none := by kernel_rfl
theorem apf_29 : apf Try.prog 29 = some (3, 56) := by kernel_rfl
theorem tyc_30 : tyc Try.prog 30 = some (true, 3) := by kernel_rfl
theorem zer_30 : zer Try.prog 30 = some [Go.Value.int Go.IntKind.i64 0, Go.Value.slice none 0 0, Go.Value.slice none 0 0] := by kernel_rfl
theorem zds_30 : zds Try.prog 30 = some [.v (Go.Value.int Go.IntKind.i64 0), .v (Go.Value.slice none 0 0), .v (Go.Value.slice none 0 0)] := by kernel_rfl
theorem fld_30_0 : fld Try.prog 30 0 = some (0, 3) := by kernel_rfl
theorem fld_30_1 : fld Try.prog 30 1 = some (1, 27) := by kernel_rfl
theorem fld_30_2 : fld Try.prog 30 2 = some (2, 28) := by kernel_rfl
theorem stf_30 : stf Try.prog 30 = some [(0, 1), (1, 1), (2, 1)] := by kernel_rfl
theorem arr_30 : arr Try.prog 30 = none := by kernel_rfl
theorem apf_30 : apf Try.prog 30 = some (3, 56) := by kernel_rfl
theorem tyc_31 : tyc Try.prog 31 = some (false, 1) := by kernel_rfl
theorem zer_31 : zer Try.prog 31 = some [Go.Value.slice none 0 0] := by kernel_rfl
theorem zds_31 : zds Try.prog 31 = some [.sl 4 []] := by kernel_rfl
theorem elt_31 : elt Try.prog 31 = some (60, 4) := by kernel_rfl
theorem apf_31 : apf Try.prog 31 = some (1, 24) := by kernel_rfl
theorem tyc_32 : tyc Try.prog 32 = some (true, 2) := by kernel_rfl
theorem zer_32 : zer Try.prog 32 = some [Go.Value.int Go.IntKind.i64 0, Go.Value.int Go.IntKind.i64 0] := by kernel_rfl
theorem zds_32 : zds Try.prog 32 = some [.v (Go.Value.int Go.IntKind.i64 0), .v (Go.Value.int Go.IntKind.i64 0)] := by kernel_rfl
theorem arr_32 : arr Try.prog 32 = some (2, 3, 1) := by kernel_rfl
theorem stf_32 : stf Try.prog 32 = none := by kernel_rfl
theorem apf_32 : apf Try.prog 32 = some (2, 16) := by kernel_rfl
theorem tyc_33 : tyc Try.prog 33 = some (true, 6) := by kernel_rfl
theorem zer_33 : zer Try.prog 33 = some [Go.Value.int Go.IntKind.i64 0, Go.Value.int Go.IntKind.i64 0, Go.Value.int Go.IntKind.i64 0, Go.Value.int Go.IntKind.i64 0, Go.Value.int Go.IntKind.i64 0, Go.Value.int Go.IntKind.i64 0] := by kernel_rfl
theorem zds_33 : zds Try.prog 33 = some [.v (Go.Value.int Go.IntKind.i64 0), .v (Go.Value.int Go.IntKind.i64 0), .v (Go.Value.int Go.IntKind.i64 0), .v (Go.Value.int Go.IntKind.i64 0), .v (Go.Value.int Go.IntKind.i64 0), .v (Go.Value.int Go.IntKind.i64 0)] := by kernel_rfl
theorem arr_33 : arr Try.prog 33 = some (3, 32, 2) := by kernel_rfl
theorem stf_33 : stf Try.prog 33 = none := by kernel_rfl
theorem apf_33 : apf Try.prog 33 = some (6, 48) := by kernel_rfl
theorem tyc_34 : tyc Try.prog 34 = some (true, 24) := by kernel_rfl
theorem zer_34 : zer Try.prog 34 = some [Go.Value.int Go.IntKind.i64 0, Go.Value.int Go.IntKind.i64 0, Go.Value.int Go.IntKind.i64 0, Go.Value.int Go.IntKind.i64 0, Go.Value.int Go.IntKind.i64 0, Go.Value.int Go.IntKind.i64 0, Go.Value.int Go.IntKind.i64 0, Go.Value.int Go.IntKind.i64 0, Go.Value.int Go.IntKind.i64 0, Go.Value.int Go.IntKind.i64 0, Go.Value.int Go.IntKind.i64 0, Go.Value.int Go.IntKind.i64 0, Go.Value.int Go.IntKind.i64 0, Go.Value.int Go.IntKind.i64 0, Go.Value.int Go.IntKind.i64 0, Go.Value.int Go.IntKind.i64 0, Go.Value.int Go.IntKind.i64 0, Go.Value.int Go.IntKind.i64 0, Go.Value.int Go.IntKind.i64 0, Go.Value.int Go.IntKind.i64 0, Go.Value.int Go.IntKind.i64 0, Go.Value.int Go.IntKind.i64 0, Go.Value.int Go.IntKind.i64 0, Go.Value.int Go.IntKind.i64 0] := by kernel_rfl
theorem zds_34 : zds Try.prog 34 = some [.v (Go.Value.int Go.IntKind.i64 0), .v (Go.Value.int Go.IntKind.i64 0), .v (Go.Value.int Go.IntKind.i64 0), .v (Go.Value.int Go.IntKind.i64 0), .v (Go.Value.int Go.IntKind.i64 0), .v (Go.Value.int Go.IntKind.i64 0), .v (Go.Value.int Go.IntKind.i64 0), .v (Go.Value.int Go.IntKind.i64 0), .v (Go.Value.int Go.IntKind.i64 0), .v (Go.Value.int Go.IntKind.i64 0), .v (Go.Value.int Go.IntKind.i64 0), .v (Go.Value.int Go.IntKind.i64 0), .v (Go.Value.int Go.IntKind.i64 0), .v (Go.Value.int Go.IntKind.i64 0), .v (Go.Value.int Go.IntKind.i64 0), .v (Go.Value.int Go.IntKind.i64 0), .v (Go.Value.int Go.IntKind.i64 0), .v (Go.Value.int Go.IntKind.i64 0), .v (Go.Value.int Go.IntKind.i64 0), .v (Go.Value.int Go.IntKind.i64 0), .v (Go.Value.int Go.IntKind.i64 0), .v (Go.Value.int Go.IntKind.i64 0), .v (Go.Value.int Go.IntKind.i64 0), .v (Go.Value.int Go.IntKind.i64 0)] := by kernel_rfl
theorem fld_34_0 : fld Try.prog 34 0 = some (0, 33) := by kernel_rfl
theorem fld_34_1 : fld Try.prog 34 1 = some (6, 33) := by kernel_rfl
theorem fld_34_2 : fld Try.prog 34 2 = some (12, 33) := by kernel_rfl
theorem fld_34_3 : fld Try.prog 34 3 = some (18, 33) := by kernel_rfl
theorem stf_34 : stf Try.prog 34 = some [(0, 6), (6, 6), (12, 6), (18, 6)] := by kernel_rfl
theorem arr_34 : arr Try.prog 34 = none := by kernel_rfl
theorem apf_34 : apf Try.prog 34 = some (24, 192) := by kernel_rfl
theorem tyc_35 : tyc Try.prog 35 = some (true, 24) := by kernel_rfl
theorem zer_35 : zer Try.prog 35 = some [Go.Value.int Go.IntKind.i64 0, Go.Value.int Go.IntKind.i64 0, Go.Value.int Go.IntKind.i64 0, Go.Value.int Go.IntKind.i64 0, Go.Value.int Go.IntKind.i64 0, Go.Value.int Go.IntKind.i64 0, Go.Value.int Go.IntKind.i64 0, Go.Value.int Go.IntKind.i64 0, Go.Value.int Go.IntKind.i64 0, Go.Value.int Go.IntKind.i64 0, Go.Value.int Go.IntKind.i64 0, Go.Value.int Go.IntKind.i64 0, Go.Value.int Go.IntKind.i64 0, Go.Value.int Go.IntKind.i64 0, Go.Value.int Go.IntKind.i64 0, Go.Value.int Go.IntKind.i64 0, Go.Value.int Go.IntKind.i64 0, Go.Value.int Go.IntKind.i64 0, Go.Value.int Go.IntKind.i64 0, Go.Value.int Go.IntKind.i64 0, Go.Value.int Go.IntKind.i64 0, Go.Value.int Go.IntKind.i64 0, Go.Value.int Go.IntKind.i64 0, Go.Value.int Go.IntKind.i64 0] := by kernel_rfl
theorem zds_35 : zds Try.prog 35 = some [.v (Go.Value.int Go.IntKind.i64 0), .v (Go.Value.int Go.IntKind.i64 0), .v (Go.Value.int Go.IntKind.i64 0), .v (Go.Value.int Go.IntKind.i64 0), .v (Go.Value.int Go.IntKind.i64 0), .v (Go.Value.int Go.IntKind.i64 0), .v (Go.Value.int Go.IntKind.i64 0), .v (Go.Value.int Go.IntKind.i64 0), .v (Go.Value.int Go.IntKind.i64 0), .v (Go.Value.int Go.IntKind.i64 0), .v (Go.Value.int Go.IntKind.i64 0), .v (Go.Value.int Go.IntKind.i64 0), .v (Go.Value.int Go.IntKind.i64 0), .v (Go.Value.int Go.IntKind.i64 0), .v (Go.Value.int Go.IntKind.i64 0), .v (Go.Value.int Go.IntKind.i64 0), .v (Go.Value.int Go.IntKind.i64 0), .v (Go.Value.int Go.IntKind.i64 0), .v (Go.Value.int Go.IntKind.i64 0), .v (Go.Value.int Go.IntKind.i64 0), .v (Go.Value.int Go.IntKind.i64 0), .v (Go.Value.int Go.IntKind.i64 0), .v (Go.Value.int Go.IntKind.i64 0), .v (Go.Value.int Go.IntKind.i64 0)] := by kernel_rfl
theorem fld_35_0 : fld Try.prog 35 0 = some (0, 33) := by kernel_rfl
theorem fld_35_1 : fld Try.prog 35 1 = some (6, 33) := by kernel_rfl
theorem fld_35_2 : fld Try.prog 35 2 = some (12, 33) := by kernel_rfl
theorem fld_35_3 : fld Try.prog 35 3 = some (18, 33) := by kernel_rfl
theorem stf_35 : stf Try.prog 35 = some [(0, 6), (6, 6), (12, 6), (18, 6)] := by kernel_rfl
theorem arr_35 : arr Try.prog 35 = none := by kernel_rfl
theorem apf_35 : apf Try.prog 35 = some (24, 192) := by kernel_rfl
theorem tyc_37 : tyc Try.prog 37 = some (false, 1) := by kernel_rfl
theorem zer_37 : zer Try.prog 37 = some [Go.Value.nilFunc] := by kernel_rfl
theorem tyc_38 : tyc Try.prog 38 = some (true, 3) := by kernel_rfl
theorem zer_38 : zer Try.prog 38 = some [Go.Value.bool false, Go.Value.bool false, Go.Value.bool false] := by kernel_rfl
theorem zds_38 : zds Try.prog 38 = some [.v (Go.Value.bool false), .v (Go.Value.bool false), .v (Go.Value.bool false)] := by kernel_rfl
theorem arr_38 : arr Try.prog 38 = some (3, 4, 1) := by kernel_rfl
theorem stf_38 : stf Try.prog 38 = none := by kernel_rfl
theorem apf_38 : apf Try.prog 38 = some (3, 3) := by kernel_rfl
theorem tyc_39 : tyc Try.prog 39 = some (false, 1) := by kernel_rfl
theorem zer_39 : zer Try.prog 39 = some [Go.Value.int Go.IntKind.i64 0] := by kernel_rfl
theorem zds_39 : zds Try.prog 39 = some [.v (Go.Value.int Go.IntKind.i64 0)] := by kernel_rfl
theorem und_39 : Try.prog.underlying 39 = some (.int .i64) := by kernel_rfl
theorem apf_39 : apf Try.prog 39 = some (1, 8) := by kernel_rfl
theorem tyc_41 : tyc Try.prog 41 = some (false, 1) := by kernel_rfl
theorem zer_41 : zer Try.prog 41 = some [Go.Value.nilFunc] := by kernel_rfl
theorem tyc_42 : tyc Try.prog 42 = some (false, 1) := by kernel_rfl
theorem zer_42 : zer Try.prog 42 = some [Go.Value.nilFunc] := by kernel_rfl
theorem tyc_43 : tyc Try.prog 43 = some (false, 1) := by kernel_rfl
theorem zer_43 : zer Try.prog 43 = some [Go.Value.nilFunc] := by kernel_rfl
theorem tyc_44 : tyc Try.prog 44 = some (false, 1) := by kernel_rfl
theorem zer_44 : zer Try.prog 44 = some [Go.Value.nilFunc] := by kernel_rfl
theorem tyc_45 : tyc Try.prog 45 = some (false, 1) := by kernel_rfl
theorem zer_45 : zer Try.prog 45 = some [Go.Value.nilFunc] := by kernel_rfl
theorem tyc_46 : tyc Try.prog 46 = some (true, 2) := by kernel_rfl
theorem zer_46 : zer Try.prog 46 = some [Go.Value.int Go.IntKind.i64 0, Go.Value.int Go.IntKind.i64 0] := by kernel_rfl
theorem zds_46 : zds Try.prog 46 = some [.v (Go.Value.int Go.IntKind.i64 0), .v (Go.Value.int Go.IntKind.i64 0)] := by kernel_rfl
theorem fld_46_0 : fld Try.prog 46 0 = some (0, 3) := by kernel_rfl
theorem fld_46_1 : fld Try.prog 46 1 = some (1, 3) := by kernel_rfl
theorem stf_46 : stf Try.prog 46 = some [(0, 1), (1, 1)] := by kernel_rfl
theorem arr_46 : arr Try.prog 46 = none := by kernel_rfl
theorem apf_46 : apf Try.prog 46 = some (2, 16) := by kernel_rfl
theorem tyc_47 : tyc Try.prog 47 = some (true, 2) := by kernel_rfl
theorem zer_47 : zer Try.prog 47 = some [Go.Value.int Go.IntKind.i64 0, Go.Value.int Go.IntKind.i64 0] := by kernel_rfl
theorem zds_47 : zds Try.prog 47 = some [.v (Go.Value.int Go.IntKind.i64 0), .v (Go.Value.int Go.IntKind.i64 0)] := by kernel_rfl
theorem fld_47_0 : fld Try.prog 47 0 = some (0, 3) := by kernel_rfl
theorem fld_47_1 : fld Try.prog 47 1 = some (1, 3) := by kernel_rfl
theorem stf_47 : stf Try.prog 47 = some [(0, 1), (1, 1)] := by kernel_rfl
theorem arr_47 : arr Try.prog 47 = none := by kernel_rfl
theorem apf_47 : apf Try.prog 47 = some (2, 16) := by kernel_rfl
theorem tyc_49 : tyc Try.prog 49 = some (false, 1) := by kernel_rfl
theorem zer_49 : zer Try.prog 49 = some [Go.Value.nilFunc] := by kernel_rfl
theorem tyc_50 : tyc Try.prog 50 = some (false, 1) := by kernel_rfl
theorem zer_50 : zer Try.prog 50 = some [Go.Value.nilFunc] := by kernel_rfl
theorem tyc_52 : tyc Try.prog 52 = some (false, 1) := by kernel_rfl
theorem zer_52 : zer Try.prog 52 = some [Go.Value.nilFunc] := by kernel_rfl
theorem tyc_54 : tyc Try.prog 54 = some (false, 1) := by kernel_rfl
theorem zer_54 : zer Try.prog 54 = some [Go.Value.nilFunc] := by kernel_rfl
theorem tyc_55 : tyc Try.prog 55 = some (false, 1) := by kernel_rfl
theorem zer_55 : zer Try.prog 55 = some [Go.Value.nilFunc] := by kernel_rfl
theorem tyc_56 : tyc Try.prog 56 = some (false, 1) := by kernel_rfl
theorem zer_56 : zer Try.prog 56 = some [Go.Value.nilFunc] := by kernel_rfl
theorem tyc_57 : tyc Try.prog 57 = some (false, 1) := by kernel_rfl
theorem zer_57 : zer Try.prog 57 = some [Go.Value.nilFunc] := by kernel_rfl
theorem tyc_58 : tyc Try.prog 58 = some (false, 1) := by kernel_rfl
theorem zer_58 : zer Try.prog 58 = some [Go.Value.int Go.IntKind.i64 0] := by kernel_rfl
theorem zds_58 : zds Try.prog 58 = some [.v (Go.Value.int Go.IntKind.i64 0)] := by kernel_rfl
theorem und_58 : Try.prog.underlying 58 = some (.int .i64) := by kernel_rfl
theorem apf_58 : apf Try.prog 58 = some (1, 8) := by kernel_rfl
theorem tyc_59 : tyc Try.prog 59 = some (true, 4) := by kernel_rfl
theorem zer_59 : zer Try.prog 59 = some [Go.Value.int Go.IntKind.i64 0, Go.Value.int Go.IntKind.i64 0, Go.Value.int Go.IntKind.i64 0, Go.Value.int Go.IntKind.i64 0] := by kernel_rfl
theorem zds_59 : zds Try.prog 59 = some [.v (Go.Value.int Go.IntKind.i64 0), .v (Go.Value.int Go.IntKind.i64 0), .v (Go.Value.int Go.IntKind.i64 0), .v (Go.Value.int Go.IntKind.i64 0)] := by kernel_rfl
theorem fld_59_0 : fld Try.prog 59 0 = some (0, 3) := by kernel_rfl
theorem fld_59_1 : fld Try.prog 59 1 = some (1, 58) := by kernel_rfl
theorem fld_59_2 : fld Try.prog 59 2 = some (2, 3) := by kernel_rfl
theorem fld_59_3 : fld Try.prog 59 3 = some (3, 3) := by kernel_rfl
theorem stf_59 : stf Try.prog 59 = some [(0, 1), (1, 1), (2, 1), (3, 1)] := by kernel_rfl
theorem arr_59 : arr Try.prog 59 = none := by kernel_rfl
theorem apf_59 : apf Try.prog 59 = some (4, 32) := by kernel_rfl
theorem tyc_60 : tyc Try.prog 60 = some (true, 4) := by kernel_rfl
theorem zer_60 : zer Try.prog 60 = some [Go.Value.int Go.IntKind.i64 0, Go.Value.int Go.IntKind.i64 0, Go.Value.int Go.IntKind.i64 0, Go.Value.int Go.IntKind.i64 0] := by kernel_rfl
theorem zds_60 : zds Try.prog 60 = some [.v (Go.Value.int Go.IntKind.i64 0), .v (Go.Value.int Go.IntKind.i64 0), .v (Go.Value.int Go.IntKind.i64 0), .v (Go.Value.int Go.IntKind.i64 0)] := by kernel_rfl
theorem fld_60_0 : fld Try.prog 60 0 = some (0, 3) := by kernel_rfl
theorem fld_60_1 : fld Try.prog 60 1 = some (1, 58) := by kernel_rfl
theorem fld_60_2 : fld Try.prog 60 2 = some (2, 3) := by kernel_rfl
theorem fld_60_3 : fld Try.prog 60 3 = some (3, 3) := by kernel_rfl
theorem stf_60 : stf Try.prog 60 = some [(0, 1), (1, 1), (2, 1), (3, 1)] := by kernel_rfl
theorem arr_60 : arr Try.prog 60 = none := by kernel_rfl
theorem apf_60 : apf Try.prog 60 = some (4, 32) := by kernel_rfl
theorem tyc_62 : tyc Try.prog 62 = some (false, 1) := by kernel_rfl
theorem zer_62 : zer Try.prog 62 = some [Go.Value.nilFunc] := by kernel_rfl
theorem tyc_63 : tyc Try.prog 63 = some (false, 1) := by kernel_rfl
theorem zer_63 : zer Try.prog 63 = some [Go.Value.nilFunc] := by kernel_rfl
theorem tyc_64 : tyc Try.prog 64 = some (false, 1) := by kernel_rfl
theorem zer_64 : zer Try.prog 64 = some [Go.Value.nilFunc] := by kernel_rfl
theorem tyc_65 : tyc Try.prog 65 = some (true, 2) := by kernel_rfl
theorem zer_65 : zer Try.prog 65 = some [Go.Value.int Go.IntKind.u8 0, Go.Value.int Go.IntKind.u8 0] := by kernel_rfl
theorem zds_65 : zds Try.prog 65 = some [.v (Go.Value.int Go.IntKind.u8 0), .v (Go.Value.int Go.IntKind.u8 0)] := by kernel_rfl
theorem arr_65 : arr Try.prog 65 = some (2, 5, 1) := by kernel_rfl
theorem stf_65 : stf Try.prog 65 = none := by kernel_rfl
theorem apf_65 : apf Try.prog 65 = some (2, 2) := by kernel_rfl
theorem tyc_66 : tyc Try.prog 66 = some (false, 1) := by kernel_rfl
theorem zer_66 : zer Try.prog 66 = some [Go.Value.nilFunc] := by kernel_rfl
theorem tyc_67 : tyc Try.prog 67 = some (false, 1) := by kernel_rfl
theorem zer_67 : zer Try.prog 67 = some [Go.Value.nilFunc] := by kernel_rfl
theorem tyc_68 : tyc Try.prog 68 = some (false, 1) := by kernel_rfl
theorem zer_68 : zer Try.prog 68 = some [Go.Value.nilFunc] := by kernel_rfl
theorem tyc_69 : tyc Try.prog 69 = some (false, 1) := by kernel_rfl
theorem zer_69 : zer Try.prog 69 = some [Go.Value.nilFunc] := by kernel_rfl
theorem tyc_70 : tyc Try.prog 70 = some (true, 4) := by kernel_rfl
theorem zer_70 : zer Try.prog 70 = some [Go.Value.int Go.IntKind.u8 0, Go.Value.int Go.IntKind.u8 0, Go.Value.int Go.IntKind.u8 0, Go.Value.int Go.IntKind.u8 0] := by kernel_rfl
theorem zds_70 : zds Try.prog 70 = some [.v (Go.Value.int Go.IntKind.u8 0), .v (Go.Value.int Go.IntKind.u8 0), .v (Go.Value.int Go.IntKind.u8 0), .v (Go.Value.int Go.IntKind.u8 0)] := by kernel_rfl
theorem arr_70 : arr Try.prog 70 = some (4, 5, 1) := by kernel_rfl
theorem stf_70 : stf Try.prog 70 = none := by kernel_rfl
theorem apf_70 : apf Try.prog 70 = some (4, 4) := by kernel_rfl
theorem tyc_71 : tyc Try.prog 71 = some (false, 1) := by kernel_rfl
theorem zer_71 : zer Try.prog 71 = some [Go.Value.nilFunc] := by kernel_rfl
theorem tyc_72 : tyc Try.prog 72 = some (false, 1) := by kernel_rfl
theorem zer_72 : zer Try.prog 72 = some [Go.Value.nilFunc] := by kernel_rfl
theorem tyc_73 : tyc Try.prog 73 = some (true, 4) := by kernel_rfl
theorem zer_73 : zer Try.prog 73 = some [Go.Value.int Go.IntKind.i64 0, Go.Value.slice none 0 0, Go.Value.slice none 0 0, Go.Value.slice none 0 0] := by kernel_rfl
theorem zds_73 : zds Try.prog 73 = some [.v (Go.Value.int Go.IntKind.i64 0), .v (Go.Value.slice none 0 0), .v (Go.Value.slice none 0 0), .v (Go.Value.slice none 0 0)] := by kernel_rfl
theorem fld_73_0 : fld Try.prog 73 0 = some (0, 30) := by kernel_rfl
theorem fld_73_1 : fld Try.prog 73 1 = some (3, 31) := by kernel_rfl
theorem stf_73 : stf Try.prog 73 = some [(0, 3), (3, 1)] := by kernel_rfl
theorem arr_73 : arr Try.prog 73 = none := by kernel_rfl
theorem apf_73 : apf Try.prog 73 = some (4, 80) := by kernel_rfl
theorem tyc_74 : tyc Try.prog 74 = some (true, 4) := by kernel_rfl
theorem zer_74 : zer Try.prog 74 = some [Go.Value.int Go.IntKind.i64 0, Go.Value.slice none 0 0, Go.Value.slice none 0 0, Go.Value.slice none 0 0] := by kernel_rfl
theorem zds_74 : zds Try.prog 74 = some [.v (Go.Value.int Go.IntKind.i64 0), .v (Go.Value.slice none 0 0), .v (Go.Value.slice none 0 0), .v (Go.Value.slice none 0 0)] := by kernel_rfl
theorem fld_74_0 : fld Try.prog 74 0 = some (0, 30) := by kernel_rfl
theorem fld_74_1 : fld Try.prog 74 1 = some (3, 31) := by kernel_rfl
theorem stf_74 : stf Try.prog 74 = some [(0, 3), (3, 1)] := by kernel_rfl
theorem arr_74 : arr Try.prog 74 = none := by kernel_rfl
theorem apf_74 : apf Try.prog 74 = some (4, 80) := by kernel_rfl
theorem tyc_76 : tyc Try.prog 76 = some (false, 1) := by kernel_rfl
theorem zer_76 : zer Try.prog 76 = some [Go.Value.nilFunc] := by kernel_rfl
theorem tyc_77 : tyc Try.prog 77 = some (false, 1) := by kernel_rfl
theorem zer_77 : zer Try.prog 77 = some [Go.Value.nilFunc] := by kernel_rfl
theorem tyc_78 : tyc Try.prog 78 = some (false, 1) := by kernel_rfl
theorem zer_78 : zer Try.prog 78 = some [Go.Value.nilFunc] := by kernel_rfl
theorem tyc_79 : tyc Try.prog 79 = some (false, 1) := by kernel_rfl
theorem zer_79 : zer Try.prog 79 = some [Go.Value.nilFunc] := by kernel_rfl
theorem tyc_80 : tyc Try.prog 80 = some (true, 7) := by kernel_rfl
theorem zer_80 : zer Try.prog 80 = some [Go.Value.int Go.IntKind.i64 0, Go.Value.int Go.IntKind.i64 0, Go.Value.int Go.IntKind.i64 0, Go.Value.int Go.IntKind.i64 0, Go.Value.int Go.IntKind.i64 0, Go.Value.int Go.IntKind.i64 0, Go.Value.int Go.IntKind.i64 0] := by kernel_rfl
theorem zds_80 : zds Try.prog 80 = some [.v (Go.Value.int Go.IntKind.i64 0), .v (Go.Value.int Go.IntKind.i64 0), .v (Go.Value.int Go.IntKind.i64 0), .v (Go.Value.int Go.IntKind.i64 0), .v (Go.Value.int Go.IntKind.i64 0), .v (Go.Value.int Go.IntKind.i64 0), .v (Go.Value.int Go.IntKind.i64 0)] := by kernel_rfl
theorem fld_80_0 : fld Try.prog 80 0 = some (0, 47) := by kernel_rfl
theorem fld_80_1 : fld Try.prog 80 1 = some (2, 47) := by kernel_rfl
theorem fld_80_2 : fld Try.prog 80 2 = some (4, 47) := by kernel_rfl
theorem fld_80_3 : fld Try.prog 80 3 = some (6, 3) := by kernel_rfl
theorem stf_80 : stf Try.prog 80 = some [(0, 2), (2, 2), (4, 2), (6, 1)] := by kernel_rfl
theorem arr_80 : arr Try.prog 80 = none := by kernel_rfl
theorem apf_80 : apf Try.prog 80 = some (7, 56) := by kernel_rfl
theorem tyc_81 : tyc Try.prog 81 = some (true, 7) := by kernel_rfl
theorem zer_81 : zer Try.prog 81 = some [Go.Value.int Go.IntKind.i64 0, Go.Value.int Go.IntKind.i64 0, Go.Value.int Go.IntKind.i64 0, Go.Value.int Go.IntKind.i64 0, Go.Value.int Go.IntKind.i64 0, Go.Value.int Go.IntKind.i64 0, Go.Value.int Go.IntKind.i64 0] := by kernel_rfl
theorem zds_81 : zds Try.prog 81 = some [.v (Go.Value.int Go.IntKind.i64 0), .v (Go.Value.int Go.IntKind.i64 0), .v (Go.Value.int Go.IntKind.i64 0), .v (Go.Value.int Go.IntKind.i64 0), .v (Go.Value.int Go.IntKind.i64 0), .v (Go.Value.int Go.IntKind.i64 0), .v (Go.Value.int Go.IntKind.i64 0)] := by kernel_rfl
theorem fld_81_0 : fld Try.prog 81 0 = some (0, 47) := by kernel_rfl
theorem fld_81_1 : fld Try.prog 81 1 = some (2, 47) := by kernel_rfl
theorem fld_81_2 : fld Try.prog 81 2 = some (4, 47) := by kernel_rfl
theorem fld_81_3 : fld Try.prog 81 3 = some (6, 3) := by kernel_rfl
theorem stf_81 : stf Try.prog 81 = some [(0, 2), (2, 2), (4, 2), (6, 1)] := by kernel_rfl
theorem arr_81 : arr Try.prog 81 = none := by kernel_rfl
theorem apf_81 : apf Try.prog 81 = some (7, 56) := by kernel_rfl
theorem tyc_82 : tyc Try.prog 82 = some (false, 1) := by kernel_rfl
theorem zer_82 : zer Try.prog 82 = some [Go.Value.nilFunc] := by kernel_rfl
theorem tyc_83 : tyc Try.prog 83 = some (false, 1) := by kernel_rfl
theorem zer_83 : zer Try.prog 83 = some [Go.Value.nilFunc] := by kernel_rfl
theorem tyc_84 : tyc Try.prog 84 = some (false, 1) := by kernel_rfl
theorem zer_84 : zer Try.prog 84 = some [Go.Value.nilFunc] := by kernel_rfl
theorem tyc_85 : tyc Try.prog 85 = some (false, 1) := by kernel_rfl
theorem zer_85 : zer Try.prog 85 = some [Go.Value.nilFunc] := by kernel_rfl
theorem tyc_86 : tyc Try.prog 86 = some (false, 1) := by kernel_rfl
theorem zer_86 : zer Try.prog 86 = some [Go.Value.nilFunc] := by kernel_rfl
theorem tyc_87 : tyc Try.prog 87 = some (false, 1) := by kernel_rfl
theorem zer_87 : zer Try.prog 87 = some [Go.Value.nilFunc] := by kernel_rfl
theorem tyc_88 : tyc Try.prog 88 = some (false, 1) := by kernel_rfl
theorem zer_88 : zer Try.prog 88 = some [Go.Value.nilFunc] := by kernel_rfl
theorem tyc_89 : tyc Try.prog 89 = some (false, 1) := by kernel_rfl
theorem zer_89 : zer Try.prog 89 = some [Go.Value.nilFunc] := by kernel_rfl
theorem tyc_90 : tyc Try.prog 90 = some (false, 1) := by kernel_rfl
theorem zer_90 : zer Try.prog 90 = some [Go.Value.nilFunc] := by kernel_rfl
theorem tyc_91 : tyc Try.prog 91 = some (false, 1) := by kernel_rfl
theorem zer_91 : zer Try.prog 91 = some [Go.Value.nilFunc] := by kernel_rfl
theorem tyc_92 : tyc Try.prog 92 = some (false, 1) := by kernel_rfl
theorem zer_92 : zer Try.prog 92 = some [Go.Value.nilFunc] := by kernel_rfl
theorem tyc_93 : tyc Try.prog 93 = some (false, 1) := by kernel_rfl
theorem zer_93 : zer Try.prog 93 = some [Go.Value.nilFunc] := by kernel_rfl
theorem tyc_94 : tyc Try.prog 94 = some (false, 1) := by kernel_rfl
theorem zer_94 : zer Try.prog 94 = some [Go.Value.nilFunc] := by kernel_rfl
theorem tyc_95 : tyc Try.prog 95 = some (true, 2) := by kernel_rfl
theorem zer_95 : zer Try.prog 95 = some [Go.Value.bool false, Go.Value.int Go.IntKind.i64 0] := by kernel_rfl
theorem zds_95 : zds Try.prog 95 = some [.v (Go.Value.bool false), .v (Go.Value.int Go.IntKind.i64 0)] := by kernel_rfl
theorem fld_95_0 : fld Try.prog 95 0 = some (0, 4) := by kernel_rfl
theorem fld_95_1 : fld Try.prog 95 1 = some (1, 39) := by kernel_rfl
theorem stf_95 : stf Try.prog 95 = some [(0, 1), (1, 1)] := by kernel_rfl
theorem arr_95 : arr Try.prog 95 = none := by kernel_rfl
theorem apf_95 : apf Try.prog 95 = some (2, 16) := by kernel_rfl
theorem tyc_96 : tyc Try.prog 96 = some (false, 1) := by kernel_rfl
theorem zer_96 : zer Try.prog 96 = some [Go.Value.nilFunc] := by kernel_rfl
theorem tyc_97 : tyc Try.prog 97 = some (false, 1) := by kernel_rfl
theorem zer_97 : zer Try.prog 97 = some [Go.Value.nilFunc] := by kernel_rfl
theorem tyc_98 : tyc Try.prog 98 = some (false, 1) := by kernel_rfl
theorem zer_98 : zer Try.prog 98 = some [Go.Value.nilFunc] := by kernel_rfl
theorem tyc_99 : tyc Try.prog 99 = some (false, 1) := by kernel_rfl
theorem zer_99 : zer Try.prog 99 = some [Go.Value.nilFunc] := by kernel_rfl
theorem tyc_100 : tyc Try.prog 100 = some (false, 1) := by kernel_rfl
theorem zer_100 : zer Try.prog 100 = some [Go.Value.nilFunc] := by kernel_rfl
theorem tyc_101 : tyc Try.prog 101 = some (true, 12) := by kernel_rfl
theorem zer_101 : zer Try.prog 101 = some [Go.Value.bool false, Go.Value.int Go.IntKind.i64 0, Go.Value.bool false, Go.Value.int Go.IntKind.i64 0, Go.Value.bool false, Go.Value.int Go.IntKind.i64 0, Go.Value.bool false, Go.Value.int Go.IntKind.i64 0, Go.Value.bool false, Go.Value.int Go.IntKind.i64 0, Go.Value.bool false, Go.Value.int Go.IntKind.i64 0] := by kernel_rfl
theorem zds_101 : zds Try.prog 101 = some [.v (Go.Value.bool false), .v (Go.Value.int Go.IntKind.i64 0), .v (Go.Value.bool false), .v (Go.Value.int Go.IntKind.i64 0), .v (Go.Value.bool false), .v (Go.Value.int Go.IntKind.i64 0), .v (Go.Value.bool false), .v (Go.Value.int Go.IntKind.i64 0), .v (Go.Value.bool false), .v (Go.Value.int Go.IntKind.i64 0), .v (Go.Value.bool false), .v (Go.Value.int Go.IntKind.i64 0)] := by kernel_rfl
theorem arr_101 : arr Try.prog 101 = some (6, 95, 2) := by kernel_rfl
theorem stf_101 : stf Try.prog 101 = none := by kernel_rfl
theorem apf_101 : apf Try.prog 101 = some (12, 96) := by kernel_rfl
theorem tyc_102 : tyc Try.prog 102 = some (false, 1) := by kernel_rfl
theorem zer_102 : zer Try.prog 102 = some [Go.Value.nilFunc] := by kernel_rfl
theorem tyc_103 : tyc Try.prog 103 = some (false, 1) := by kernel_rfl
theorem zer_103 : zer Try.prog 103 = some [Go.Value.nilFunc] := by kernel_rfl
theorem tyc_104 : tyc Try.prog 104 = some (false, 1) := by kernel_rfl
theorem zer_104 : zer Try.prog 104 = some [Go.Value.nilFunc] := by kernel_rfl
theorem tyc_105 : tyc Try.prog 105 = some (false, 1) := by kernel_rfl
theorem zer_105 : zer Try.prog 105 = some [Go.Value.nilFunc] := by kernel_rfl
theorem tyc_106 : tyc Try.prog 106 = some (false, 1) := by kernel_rfl
theorem zer_106 : zer Try.prog 106 = some [Go.Value.nilFunc] := by kernel_rfl
theorem tyc_107 : tyc Try.prog 107 = some (false, 1) := by kernel_rfl
theorem zer_107 : zer Try.prog 107 = some [Go.Value.nilFunc] := by kernel_rfl
theorem tyc_108 : tyc Try.prog 108 = some (false, 1) := by kernel_rfl
theorem zer_108 : zer Try.prog 108 = some [Go.Value.nilFunc] := by kernel_rfl
theorem tyc_109 : tyc Try.prog 109 = some (false, 1) := by kernel_rfl
theorem zer_109 : zer Try.prog 109 = some [Go.Value.nilFunc] := by kernel_rfl
theorem tyc_110 : tyc Try.prog 110 = some (false, 1) := by kernel_rfl
theorem zer_110 : zer Try.prog 110 = some [Go.Value.nilFunc] := by kernel_rfl
theorem tyc_111 : tyc Try.prog 111 = some (false, 1) := by kernel_rfl
theorem zer_111 : zer Try.prog 111 = some [Go.Value.nilFunc] := by kernel_rfl
theorem tyc_112 : tyc Try.prog 112 = some (false, 1) := by kernel_rfl
theorem zer_112 : zer Try.prog 112 = some [Go.Value.nilFunc] := by kernel_rfl
theorem tyc_113 : tyc Try.prog 113 = some (false, 1) := by kernel_rfl
theorem zer_113 : zer Try.prog 113 = some [Go.Value.nilFunc] := by kernel_rfl
theorem tyc_114 : tyc Try.prog 114 = some (true, 4) := by kernel_rfl
theorem zer_114 : zer Try.prog 114 = some [Go.Value.pointer none, Go.Value.pointer none, Go.Value.pointer none, Go.Value.string { data := #[] }] := by kernel_rfl
theorem zds_114 : zds Try.prog 114 = some [.v (Go.Value.pointer none), .v (Go.Value.pointer none), .v (Go.Value.pointer none), .v (Go.Value.string { data := #[] })] := by kernel_rfl
theorem fld_114_0 : fld Try.prog 114 0 = some (0, 17) := by kernel_rfl
theorem fld_114_1 : fld Try.prog 114 1 = some (1, 17) := by kernel_rfl
theorem fld_114_2 : fld Try.prog 114 2 = some (2, 17) := by kernel_rfl
theorem fld_114_3 : fld Try.prog 114 3 = some (3, 9) := by kernel_rfl
theorem stf_114 : stf Try.prog 114 = some [(0, 1), (1, 1), (2, 1), (3, 1)] := by kernel_rfl
theorem arr_114 : arr Try.prog 114 = none := by kernel_rfl
theorem apf_114 : apf Try.prog 114 = some (4, 40) := by kernel_rfl
theorem tyc_115 : tyc Try.prog 115 = some (true, 4) := by kernel_rfl
theorem zer_115 : zer Try.prog 115 = some [Go.Value.pointer none, Go.Value.pointer none, Go.Value.pointer none, Go.Value.string { data := #[] }] := by kernel_rfl
theorem zds_115 : zds Try.prog 115 = some [.v (Go.Value.pointer none), .v (Go.Value.pointer none), .v (Go.Value.pointer none), .v (Go.Value.string { data := #[] })] := by kernel_rfl
theorem fld_115_0 : fld Try.prog 115 0 = some (0, 17) := by kernel_rfl
theorem fld_115_1 : fld Try.prog 115 1 = some (1, 17) := by kernel_rfl
theorem fld_115_2 : fld Try.prog 115 2 = some (2, 17) := by kernel_rfl
theorem fld_115_3 : fld Try.prog 115 3 = some (3, 9) := by kernel_rfl
theorem stf_115 : stf Try.prog 115 = some [(0, 1), (1, 1), (2, 1), (3, 1)] := by kernel_rfl
theorem arr_115 : arr Try.prog 115 = none := by kernel_rfl
theorem apf_115 : apf Try.prog 115 = some (4, 40) := by kernel_rfl
theorem tyc_116 : tyc Try.prog 116 = some (true, 0) := by kernel_rfl
theorem zer_116 : zer Try.prog 116 = some [] := by kernel_rfl
theorem zds_116 : zds Try.prog 116 = some [] := by kernel_rfl
theorem arr_116 : arr Try.prog 116 = some (0, 16, 1) := by kernel_rfl
theorem stf_116 : stf Try.prog 116 = none := by kernel_rfl
theorem tyc_117 : tyc Try.prog 117 = some (true, 0) := by kernel_rfl
theorem zer_117 : zer Try.prog 117 = some [] := by kernel_rfl
theorem zds_117 : zds Try.prog 117 = some [] := by kernel_rfl
theorem stf_117 : stf Try.prog 117 = some [(0, 0)] := by kernel_rfl
theorem arr_117 : arr Try.prog 117 = none := by kernel_rfl
theorem tyc_118 : tyc Try.prog 118 = some (true, 0) := by kernel_rfl
theorem zer_118 : zer Try.prog 118 = some [] := by kernel_rfl
theorem zds_118 : zds Try.prog 118 = some [] := by kernel_rfl
theorem stf_118 : stf Try.prog 118 = some [(0, 0)] := by kernel_rfl
theorem arr_118 : arr Try.prog 118 = none := by kernel_rfl
theorem tyc_119 : tyc Try.prog 119 = some (false, 1) := by kernel_rfl
theorem zer_119 : zer Try.prog 119 = some [Go.Value.int Go.IntKind.u32 0] := by kernel_rfl
theorem zds_119 : zds Try.prog 119 = some [.v (Go.Value.int Go.IntKind.u32 0)] := by kernel_rfl
theorem und_119 : Try.prog.underlying 119 = some (.int .u32) := by kernel_rfl
theorem apf_119 : apf Try.prog 119 = some (1, 4) := by kernel_rfl
theorem tyc_120 : tyc Try.prog 120 = some (false, 1) := by kernel_rfl
theorem zer_120 : zer Try.prog 120 = some [Go.Value.int Go.IntKind.u8 0] := by kernel_rfl
theorem zds_120 : zds Try.prog 120 = some [.v (Go.Value.int Go.IntKind.u8 0)] := by kernel_rfl
theorem und_120 : Try.prog.underlying 120 = some (.int .u8) := by kernel_rfl
theorem apf_120 : apf Try.prog 120 = some (1, 1) := by kernel_rfl
theorem tyc_121 : tyc Try.prog 121 = some (false, 1) := by kernel_rfl
theorem zer_121 : zer Try.prog 121 = some [Go.Value.int Go.IntKind.u8 0] := by kernel_rfl
theorem zds_121 : zds Try.prog 121 = some [.v (Go.Value.int Go.IntKind.u8 0)] := by kernel_rfl
theorem und_121 : Try.prog.underlying 121 = some (.int .u8) := by kernel_rfl
theorem apf_121 : apf Try.prog 121 = some (1, 1) := by kernel_rfl
theorem tyc_122 : tyc Try.prog 122 = some (false, 1) := by kernel_rfl
theorem zer_122 : zer Try.prog 122 = some [Go.Value.nilFunc] := by kernel_rfl
theorem tyc_123 : tyc Try.prog 123 = some (false, 1) := by kernel_rfl
theorem zer_123 : zer Try.prog 123 = some [Go.Value.pointer none] := by kernel_rfl
theorem zds_123 : zds Try.prog 123 = some [.v (Go.Value.pointer none)] := by kernel_rfl
theorem apf_123 : apf Try.prog 123 = some (1, 8) := by kernel_rfl
theorem tyc_124 : tyc Try.prog 124 = some (false, 1) := by kernel_rfl
theorem zer_124 : zer Try.prog 124 = some [Go.Value.int Go.IntKind.i32 0] := by kernel_rfl
theorem zds_124 : zds Try.prog 124 = some [.v (Go.Value.int Go.IntKind.i32 0)] := by kernel_rfl
theorem und_124 : Try.prog.underlying 124 = some (.int .i32) := by kernel_rfl
theorem apf_124 : apf Try.prog 124 = some (1, 4) := by kernel_rfl
theorem tyc_125 : tyc Try.prog 125 = some (false, 1) := by kernel_rfl
theorem zer_125 : zer Try.prog 125 = some [Go.Value.int Go.IntKind.i32 0] := by kernel_rfl
theorem zds_125 : zds Try.prog 125 = some [.v (Go.Value.int Go.IntKind.i32 0)] := by kernel_rfl
theorem und_125 : Try.prog.underlying 125 = some (.int .i32) := by kernel_rfl
theorem apf_125 : apf Try.prog 125 = some (1, 4) := by kernel_rfl
theorem tyc_126 : tyc Try.prog 126 = some (true, 11) := by kernel_rfl
theorem zer_126 : zer Try.prog 126 = some [Go.Value.int Go.IntKind.u64 0, Go.Value.int Go.IntKind.u64 0, Go.Value.int Go.IntKind.u32 0, Go.Value.int Go.IntKind.u8 0, Go.Value.int Go.IntKind.u8 0, Go.Value.int Go.IntKind.u8 0, Go.Value.int Go.IntKind.u8 0, Go.Value.nilFunc, Go.Value.pointer none, Go.Value.int Go.IntKind.i32 0, Go.Value.int Go.IntKind.i32 0] := by kernel_rfl
theorem zds_126 : zds Try.prog 126 = some [.v (Go.Value.int Go.IntKind.u64 0), .v (Go.Value.int Go.IntKind.u64 0), .v (Go.Value.int Go.IntKind.u32 0), .v (Go.Value.int Go.IntKind.u8 0), .v (Go.Value.int Go.IntKind.u8 0), .v (Go.Value.int Go.IntKind.u8 0), .v (Go.Value.int Go.IntKind.u8 0), .v (Go.Value.nilFunc), .v (Go.Value.pointer none), .v (Go.Value.int Go.IntKind.i32 0), .v (Go.Value.int Go.IntKind.i32 0)] := by kernel_rfl
theorem fld_126_0 : fld Try.prog 126 0 = some (0, 12) := by kernel_rfl
theorem fld_126_1 : fld Try.prog 126 1 = some (1, 12) := by kernel_rfl
theorem fld_126_2 : fld Try.prog 126 2 = some (2, 119) := by kernel_rfl
theorem fld_126_3 : fld Try.prog 126 3 = some (3, 120) := by kernel_rfl
theorem fld_126_4 : fld Try.prog 126 4 = some (4, 5) := by kernel_rfl
theorem fld_126_5 : fld Try.prog 126 5 = some (5, 5) := by kernel_rfl
theorem fld_126_6 : fld Try.prog 126 6 = some (6, 121) := by kernel_rfl
theorem fld_126_7 : fld Try.prog 126 7 = some (7, 122) := by kernel_rfl
theorem fld_126_8 : fld Try.prog 126 8 = some (8, 123) := by kernel_rfl
theorem fld_126_9 : fld Try.prog 126 9 = some (9, 124) := by kernel_rfl
theorem fld_126_10 : fld Try.prog 126 10 = some (10, 125) := by kernel_rfl
theorem stf_126 : stf Try.prog 126 = some [(0, 1), (1, 1), (2, 1), (3, 1), (4, 1), (5, 1), (6, 1), (7, 1), (8, 1), (9, 1), (10, 1)] := by kernel_rfl
theorem arr_126 : arr Try.prog 126 = none := by kernel_rfl
theorem apf_126 : apf Try.prog 126 = some (11, 48) := by kernel_rfl
theorem tyc_127 : tyc Try.prog 127 = some (true, 11) := by kernel_rfl
theorem zer_127 : zer Try.prog 127 = some [Go.Value.int Go.IntKind.u64 0, Go.Value.int Go.IntKind.u64 0, Go.Value.int Go.IntKind.u32 0, Go.Value.int Go.IntKind.u8 0, Go.Value.int Go.IntKind.u8 0, Go.Value.int Go.IntKind.u8 0, Go.Value.int Go.IntKind.u8 0, Go.Value.nilFunc, Go.Value.pointer none, Go.Value.int Go.IntKind.i32 0, Go.Value.int Go.IntKind.i32 0] := by kernel_rfl
theorem zds_127 : zds Try.prog 127 = some [.v (Go.Value.int Go.IntKind.u64 0), .v (Go.Value.int Go.IntKind.u64 0), .v (Go.Value.int Go.IntKind.u32 0), .v (Go.Value.int Go.IntKind.u8 0), .v (Go.Value.int Go.IntKind.u8 0), .v (Go.Value.int Go.IntKind.u8 0), .v (Go.Value.int Go.IntKind.u8 0), .v (Go.Value.nilFunc), .v (Go.Value.pointer none), .v (Go.Value.int Go.IntKind.i32 0), .v (Go.Value.int Go.IntKind.i32 0)] := by kernel_rfl
theorem fld_127_0 : fld Try.prog 127 0 = some (0, 12) := by kernel_rfl
theorem fld_127_1 : fld Try.prog 127 1 = some (1, 12) := by kernel_rfl
theorem fld_127_2 : fld Try.prog 127 2 = some (2, 119) := by kernel_rfl
theorem fld_127_3 : fld Try.prog 127 3 = some (3, 120) := by kernel_rfl
theorem fld_127_4 : fld Try.prog 127 4 = some (4, 5) := by kernel_rfl
theorem fld_127_5 : fld Try.prog 127 5 = some (5, 5) := by kernel_rfl
theorem fld_127_6 : fld Try.prog 127 6 = some (6, 121) := by kernel_rfl
theorem fld_127_7 : fld Try.prog 127 7 = some (7, 122) := by kernel_rfl
theorem fld_127_8 : fld Try.prog 127 8 = some (8, 123) := by kernel_rfl
theorem fld_127_9 : fld Try.prog 127 9 = some (9, 124) := by kernel_rfl
theorem fld_127_10 : fld Try.prog 127 10 = some (10, 125) := by kernel_rfl
theorem stf_127 : stf Try.prog 127 = some [(0, 1), (1, 1), (2, 1), (3, 1), (4, 1), (5, 1), (6, 1), (7, 1), (8, 1), (9, 1), (10, 1)] := by kernel_rfl
theorem arr_127 : arr Try.prog 127 = none := by kernel_rfl
theorem apf_127 : apf Try.prog 127 = some (11, 48) := by kernel_rfl
theorem fun_0 : Try.prog.funcs[0]? = some Try.f0 := by kernel_rfl
theorem fun_1 : Try.prog.funcs[1]? = some Try.f1 := by kernel_rfl
theorem fun_2 : Try.prog.funcs[2]? = some Try.f2 := by kernel_rfl
theorem fun_3 : Try.prog.funcs[3]? = some Try.f3 := by kernel_rfl
theorem fun_4 : Try.prog.funcs[4]? = some Try.f4 := by kernel_rfl
theorem fun_5 : Try.prog.funcs[5]? = some Try.f5 := by kernel_rfl
theorem fun_6 : Try.prog.funcs[6]? = some Try.f6 := by kernel_rfl
theorem fun_7 : Try.prog.funcs[7]? = some Try.f7 := by kernel_rfl
theorem fun_8 : Try.prog.funcs[8]? = some Try.f8 := by kernel_rfl
theorem fun_9 : Try.prog.funcs[9]? = some Try.f9 := by kernel_rfl
theorem fun_10 : Try.prog.funcs[10]? = some Try.f10 := by kernel_rfl
theorem fun_11 : Try.prog.funcs[11]? = some Try.f11 := by kernel_rfl
theorem fun_12 : Try.prog.funcs[12]? = some Try.f12 := by kernel_rfl
theorem fun_13 : Try.prog.funcs[13]? = some Try.f13 := by kernel_rfl
theorem fun_14 : Try.prog.funcs[14]? = some Try.f14 := by kernel_rfl
theorem fun_15 : Try.prog.funcs[15]? = some Try.f15 := by kernel_rfl
theorem fun_16 : Try.prog.funcs[16]? = some Try.f16 := by kernel_rfl
theorem fun_17 : Try.prog.funcs[17]? = some Try.f17 := by kernel_rfl
theorem fun_18 : Try.prog.funcs[18]? = some Try.f18 := by kernel_rfl
theorem fun_19 : Try.prog.funcs[19]? = some Try.f19 := by kernel_rfl
theorem fun_20 : Try.prog.funcs[20]? = some Try.f20 := by kernel_rfl
theorem fun_21 : Try.prog.funcs[21]? = some Try.f21 := by kernel_rfl
theorem fun_22 : Try.prog.funcs[22]? = some Try.f22 := by kernel_rfl
theorem fun_23 : Try.prog.funcs[23]? = some Try.f23 := by kernel_rfl
theorem fun_24 : Try.prog.funcs[24]? = some Try.f24 := by kernel_rfl
theorem fun_25 : Try.prog.funcs[25]? = some Try.f25 := by kernel_rfl
theorem fun_26 : Try.prog.funcs[26]? = some Try.f26 := by kernel_rfl
theorem fun_27 : Try.prog.funcs[27]? = some Try.f27 := by kernel_rfl
theorem fun_28 : Try.prog.funcs[28]? = some Try.f28 := by kernel_rfl
theorem fun_29 : Try.prog.funcs[29]? = some Try.f29 := by kernel_rfl
theorem fun_30 : Try.prog.funcs[30]? = some Try.f30 := by kernel_rfl
theorem fun_31 : Try.prog.funcs[31]? = some Try.f31 := by kernel_rfl
theorem fun_32 : Try.prog.funcs[32]? = some Try.f32 := by kernel_rfl
theorem fun_33 : Try.prog.funcs[33]? = some Try.f33 := by kernel_rfl
theorem fun_34 : Try.prog.funcs[34]? = some Try.f34 := by kernel_rfl
theorem fun_35 : Try.prog.funcs[35]? = some Try.f35 := by kernel_rfl
theorem fun_36 : Try.prog.funcs[36]? = some Try.f36 := by kernel_rfl
theorem fun_37 : Try.prog.funcs[37]? = some Try.f37 := by kernel_rfl
theorem fun_38 : Try.prog.funcs[38]? = some Try.f38 := by kernel_rfl
theorem fun_39 : Try.prog.funcs[39]? = some Try.f39 := by kernel_rfl
theorem fun_40 : Try.prog.funcs[40]? = some Try.f40 := by kernel_rfl
theorem fun_41 : Try.prog.funcs[41]? = some Try.f41 := by kernel_rfl
theorem fun_42 : Try.prog.funcs[42]? = some Try.f42 := by kernel_rfl
theorem fun_43 : Try.prog.funcs[43]? = some Try.f43 := by kernel_rfl
theorem fun_44 : Try.prog.funcs[44]? = some Try.f44 := by kernel_rfl
theorem fun_45 : Try.prog.funcs[45]? = some Try.f45 := by kernel_rfl
theorem fun_46 : Try.prog.funcs[46]? = some Try.f46 := by kernel_rfl
theorem fun_47 : Try.prog.funcs[47]? = some Try.f47 := by kernel_rfl
theorem fun_48 : Try.prog.funcs[48]? = some Try.f48 := by kernel_rfl
theorem fun_49 : Try.prog.funcs[49]? = some Try.f49 := by kernel_rfl
theorem fun_50 : Try.prog.funcs[50]? = some Try.f50 := by kernel_rfl
theorem fun_51 : Try.prog.funcs[51]? = some Try.f51 := by kernel_rfl
theorem fun_52 : Try.prog.funcs[52]? = some Try.f52 := by kernel_rfl
theorem fun_53 : Try.prog.funcs[53]? = some Try.f53 := by kernel_rfl
theorem fun_54 : Try.prog.funcs[54]? = some Try.f54 := by kernel_rfl
theorem fun_55 : Try.prog.funcs[55]? = some Try.f55 := by kernel_rfl
theorem fun_56 : Try.prog.funcs[56]? = some Try.f56 := by kernel_rfl
theorem fun_57 : Try.prog.funcs[57]? = some Try.f57 := by kernel_rfl
theorem fun_58 : Try.prog.funcs[58]? = some Try.f58 := by kernel_rfl
theorem fun_59 : Try.prog.funcs[59]? = some Try.f59 := by kernel_rfl
theorem fun_60 : Try.prog.funcs[60]? = some Try.f60 := by kernel_rfl
theorem fun_61 : Try.prog.funcs[61]? = some Try.f61 := by kernel_rfl
theorem fun_62 : Try.prog.funcs[62]? = some Try.f62 := by kernel_rfl
theorem fun_63 : Try.prog.funcs[63]? = some Try.f63 := by kernel_rfl
theorem fun_64 : Try.prog.funcs[64]? = some Try.f64 := by kernel_rfl
theorem fun_65 : Try.prog.funcs[65]? = some Try.f65 := by kernel_rfl
theorem fun_66 : Try.prog.funcs[66]? = some Try.f66 := by kernel_rfl
theorem fun_67 : Try.prog.funcs[67]? = some Try.f67 := by kernel_rfl
theorem fun_68 : Try.prog.funcs[68]? = some Try.f68 := by kernel_rfl
theorem fun_69 : Try.prog.funcs[69]? = some Try.f69 := by kernel_rfl
theorem fun_70 : Try.prog.funcs[70]? = some Try.f70 := by kernel_rfl
theorem fun_71 : Try.prog.funcs[71]? = some Try.f71 := by kernel_rfl
theorem fun_72 : Try.prog.funcs[72]? = some Try.f72 := by kernel_rfl
theorem fun_73 : Try.prog.funcs[73]? = some Try.f73 := by kernel_rfl
theorem fun_74 : Try.prog.funcs[74]? = some Try.f74 := by kernel_rfl
theorem fun_75 : Try.prog.funcs[75]? = some Try.f75 := by kernel_rfl
theorem fun_76 : Try.prog.funcs[76]? = some Try.f76 := by kernel_rfl
theorem fun_77 : Try.prog.funcs[77]? = some Try.f77 := by kernel_rfl
theorem fun_78 : Try.prog.funcs[78]? = some Try.f78 := by kernel_rfl
theorem fun_79 : Try.prog.funcs[79]? = some Try.f79 := by kernel_rfl
theorem fun_80 : Try.prog.funcs[80]? = some Try.f80 := by kernel_rfl
theorem fun_81 : Try.prog.funcs[81]? = some Try.f81 := by kernel_rfl
theorem fun_82 : Try.prog.funcs[82]? = some Try.f82 := by kernel_rfl
theorem fun_83 : Try.prog.funcs[83]? = some Try.f83 := by kernel_rfl
theorem fun_84 : Try.prog.funcs[84]? = some Try.f84 := by kernel_rfl
theorem fun_85 : Try.prog.funcs[85]? = some Try.f85 := by kernel_rfl
theorem fun_86 : Try.prog.funcs[86]? = some Try.f86 := by kernel_rfl
theorem fun_87 : Try.prog.funcs[87]? = some Try.f87 := by kernel_rfl
theorem fun_88 : Try.prog.funcs[88]? = some Try.f88 := by kernel_rfl
theorem fun_89 : Try.prog.funcs[89]? = some Try.f89 := by kernel_rfl
def fA0 := (And.intro (And.intro (And.intro (And.intro (And.intro (And.intro (And.intro (And.intro (And.intro @tyc_1 @zer_1) (And.intro @tyc_2 @zer_2)) (And.intro (And.intro @zds_2 @und_2) (And.intro @apf_2 @tyc_3))) (And.intro (And.intro (And.intro @zer_3 @zds_3) (And.intro @und_3 @apf_3)) (And.intro (And.intro @tyc_4 @zer_4) (And.intro @zds_4 @und_4)))) (And.intro (And.intro (And.intro (And.intro @apf_4 @tyc_5) (And.intro @zer_5 @zds_5)) (And.intro (And.intro @und_5 @apf_5) (And.intro @tyc_6 @zer_6))) (And.intro (And.intro (And.intro @zds_6 @und_6) (And.intro @apf_6 @tyc_7)) (And.intro (And.intro @zer_7 @zds_7) (And.intro @fld_7_0 (And.intro @fld_7_1 @fld_7_2)))))) (And.intro (And.intro (And.intro (And.intro (And.intro @fld_7_3 @stf_7) (And.intro @arr_7 @apf_7)) (And.intro (And.intro @tyc_8 @zer_8) (And.intro @zds_8 @fld_8_0))) (And.intro (And.intro (And.intro @fld_8_1 @fld_8_2) (And.intro @fld_8_3 @stf_8)) (And.intro (And.intro @arr_8 @apf_8) (And.intro @tyc_9 @zer_9)))) (And.intro (And.intro (And.intro (And.intro @zds_9 @apf_9) (And.intro @tyc_10 @zer_10)) (And.intro (And.intro @zds_10 @apf_10) (And.intro @tyc_11 @zer_11))) (And.intro (And.intro (And.intro @zds_11 @apf_11) (And.intro @tyc_12 @zer_12)) (And.intro (And.intro @zds_12 @und_12) (And.intro @apf_12 (And.intro @tyc_13 @zer_13))))))) (And.intro (And.intro (And.intro (And.intro (And.intro (And.intro @zds_13 @fld_13_0) (And.intro @fld_13_1 @stf_13)) (And.intro (And.intro @arr_13 @apf_13) (And.intro @tyc_14 @zer_14))) (And.intro (And.intro (And.intro @zds_14 @fld_14_0) (And.intro @fld_14_1 @stf_14)) (And.intro (And.intro @arr_14 @apf_14) (And.intro @tyc_15 @zer_15)))) (And.intro (And.intro (And.intro (And.intro @zds_15 @apf_15) (And.intro @tyc_16 @zer_16)) (And.intro (And.intro @zds_16 @apf_16) (And.intro @tyc_17 @zer_17))) (And.intro (And.intro (And.intro @zds_17 @apf_17) (And.intro @tyc_18 @zer_18)) (And.intro (And.intro @zds_18 @fld_18_0) (And.intro @stf_18 (And.intro @arr_18 @apf_18)))))) (And.intro (And.intro (And.intro (And.intro (And.intro @tyc_19 @zer_19) (And.intro @zds_19 @fld_19_0)) (And.intro (And.intro @stf_19 @arr_19) (And.intro @apf_19 @tyc_21))) (And.intro (And.intro (And.intro @zer_21 @zds_21) (And.intro @und_21 @apf_21)) (And.intro (And.intro @tyc_22 @zer_22) (And.intro @zds_22 (And.intro @arr_22 @stf_22))))) (And.intro (And.intro (And.intro (And.intro @apf_22 @tyc_23) (And.intro @zer_23 @zds_23)) (And.intro (And.intro @elt_23 @apf_23) (And.intro @tyc_24 @zer_24))) (And.intro (And.intro (And.intro @zds_24 @fld_24_0) (And.intro @fld_24_1 @stf_24)) (And.intro (And.intro @arr_24 @apf_24) (And.intro @tyc_25 (And.intro @zer_25 @zds_25)))))))) (And.intro (And.intro (And.intro (And.intro (And.intro (And.intro (And.intro @fld_25_0 @fld_25_1) (And.intro @stf_25 @arr_25)) (And.intro (And.intro @apf_25 @tyc_26) (And.intro @zer_26 @zds_26))) (And.intro (And.intro (And.intro @elt_26 @apf_26) (And.intro @tyc_27 @zer_27)) (And.intro (And.intro @zds_27 @elt_27) (And.intro @apf_27 @tyc_28)))) (And.intro (And.intro (And.intro (And.intro @zer_28 @zds_28) (And.intro @elt_28 @apf_28)) (And.intro (And.intro @tyc_29 @zer_29) (And.intro @zds_29 @fld_29_0))) (And.intro (And.intro (And.intro @fld_29_1 @fld_29_2) (And.intro @stf_29 @arr_29)) (And.intro (And.intro @apf_29 @tyc_30) (And.intro @zer_30 (And.intro @zds_30 @fld_30_0)))))) (And.intro (And.intro (And.intro (And.intro (And.intro @fld_30_1 @fld_30_2) (And.intro @stf_30 @arr_30)) (And.intro (And.intro @apf_30 @tyc_31) (And.intro @zer_31 @zds_31))) (And.intro (And.intro (And.intro @elt_31 @apf_31) (And.intro @tyc_32 @zer_32)) (And.intro (And.intro @zds_32 @arr_32) (And.intro @stf_32 (And.intro @apf_32 @tyc_33))))) (And.intro (And.intro (And.intro (And.intro @zer_33 @zds_33) (And.intro @arr_33 @stf_33)) (And.intro (And.intro @apf_33 @tyc_34) (And.intro @zer_34 @zds_34))) (And.intro (And.intro (And.intro @fld_34_0 @fld_34_1) (And.intro @fld_34_2 @fld_34_3)) (And.intro (And.intro @stf_34 @arr_34) (And.intro @apf_34 (And.intro @tyc_35 @zer_35))))))) (And.intro (And.intro (And.intro (And.intro (And.intro (And.intro @zds_35 @fld_35_0) (And.intro @fld_35_1 @fld_35_2)) (And.intro (And.intro @fld_35_3 @stf_35) (And.intro @arr_35 @apf_35))) (And.intro (And.intro (And.intro @tyc_37 @zer_37) (And.intro @tyc_38 @zer_38)) (And.intro (And.intro @zds_38 @arr_38) (And.intro @stf_38 @apf_38)))) (And.intro (And.intro (And.intro (And.intro @tyc_39 @zer_39) (And.intro @zds_39 @und_39)) (And.intro (And.intro @apf_39 @tyc_41) (And.intro @zer_41 @tyc_42))) (And.intro (And.intro (And.intro @zer_42 @tyc_43) (And.intro @zer_43 @tyc_44)) (And.intro (And.intro @zer_44 @tyc_45) (And.intro @zer_45 (And.intro @tyc_46 @zer_46)))))) (And.intro (And.intro (And.intro (And.intro (And.intro @zds_46 @fld_46_0) (And.intro @fld_46_1 @stf_46)) (And.intro (And.intro @arr_46 @apf_46) (And.intro @tyc_47 @zer_47))) (And.intro (And.intro (And.intro @zds_47 @fld_47_0) (And.intro @fld_47_1 @stf_47)) (And.intro (And.intro @arr_47 @apf_47) (And.intro @tyc_49 (And.intro @zer_49 @tyc_50))))) (And.intro (And.intro (And.intro (And.intro @zer_50 @tyc_52) (And.intro @zer_52 @tyc_54)) (And.intro (And.intro @zer_54 @tyc_55) (And.intro @zer_55 @tyc_56))) (And.intro (And.intro (And.intro @zer_56 @tyc_57) (And.intro @zer_57 @tyc_58)) (And.intro (And.intro @zer_58 @zds_58) (And.intro @und_58 (And.intro @apf_58 @tyc_59))))))))) (And.intro (And.intro (And.intro (And.intro (And.intro (And.intro (And.intro (And.intro @zer_59 @zds_59) (And.intro @fld_59_0 @fld_59_1)) (And.intro (And.intro @fld_59_2 @fld_59_3) (And.intro @stf_59 @arr_59))) (And.intro (And.intro (And.intro @apf_59 @tyc_60) (And.intro @zer_60 @zds_60)) (And.intro (And.intro @fld_60_0 @fld_60_1) (And.intro @fld_60_2 @fld_60_3)))) (And.intro (And.intro (And.intro (And.intro @stf_60 @arr_60) (And.intro @apf_60 @tyc_62)) (And.intro (And.intro @zer_62 @tyc_63) (And.intro @zer_63 @tyc_64))) (And.intro (And.intro (And.intro @zer_64 @tyc_65) (And.intro @zer_65 @zds_65)) (And.intro (And.intro @arr_65 @stf_65) (And.intro @apf_65 (And.intro @tyc_66 @zer_66)))))) (And.intro (And.intro (And.intro (And.intro (And.intro @tyc_67 @zer_67) (And.intro @tyc_68 @zer_68)) (And.intro (And.intro @tyc_69 @zer_69) (And.intro @tyc_70 @zer_70))) (And.intro (And.intro (And.intro @zds_70 @arr_70) (And.intro @stf_70 @apf_70)) (And.intro (And.intro @tyc_71 @zer_71) (And.intro @tyc_72 @zer_72)))) (And.intro (And.intro (And.intro (And.intro @tyc_73 @zer_73) (And.intro @zds_73 @fld_73_0)) (And.intro (And.intro @fld_73_1 @stf_73) (And.intro @arr_73 @apf_73))) (And.intro (And.intro (And.intro @tyc_74 @zer_74) (And.intro @zds_74 @fld_74_0)) (And.intro (And.intro @fld_74_1 @stf_74) (And.intro @arr_74 (And.intro @apf_74 @tyc_76))))))) (And.intro (And.intro (And.intro (And.intro (And.intro (And.intro @zer_76 @tyc_77) (And.intro @zer_77 @tyc_78)) (And.intro (And.intro @zer_78 @tyc_79) (And.intro @zer_79 @tyc_80))) (And.intro (And.intro (And.intro @zer_80 @zds_80) (And.intro @fld_80_0 @fld_80_1)) (And.intro (And.intro @fld_80_2 @fld_80_3) (And.intro @stf_80 @arr_80)))) (And.intro (And.intro (And.intro (And.intro @apf_80 @tyc_81) (And.intro @zer_81 @zds_81)) (And.intro (And.intro @fld_81_0 @fld_81_1) (And.intro @fld_81_2 @fld_81_3))) (And.intro (And.intro (And.intro @stf_81 @arr_81) (And.intro @apf_81 @tyc_82)) (And.intro (And.intro @zer_82 @tyc_83) (And.intro @zer_83 (And.intro @tyc_84 @zer_84)))))) (And.intro (And.intro (And.intro (And.intro (And.intro @tyc_85 @zer_85) (And.intro @tyc_86 @zer_86)) (And.intro (And.intro @tyc_87 @zer_87) (And.intro @tyc_88 @zer_88))) (And.intro (And.intro (And.intro @tyc_89 @zer_89) (And.intro @tyc_90 @zer_90)) (And.intro (And.intro @tyc_91 @zer_91) (And.intro @tyc_92 (And.intro @zer_92 @tyc_93))))) (And.intro (And.intro (And.intro (And.intro @zer_93 @tyc_94) (And.intro @zer_94 @tyc_95)) (And.intro (And.intro @zer_95 @zds_95) (And.intro @fld_95_0 @fld_95_1))) (And.intro (And.intro (And.intro @stf_95 @arr_95) (And.intro @apf_95 @tyc_96)) (And.intro (And.intro @zer_96 @tyc_97) (And.intro @zer_97 (And.intro @tyc_98 @zer_98)))))))) (And.intro (And.intro (And.intro (And.intro (And.intro (And.intro (And.intro @tyc_99 @zer_99) (And.intro @tyc_100 @zer_100)) (And.intro (And.intro @tyc_101 @zer_101) (And.intro @zds_101 @arr_101))) (And.intro (And.intro (And.intro @stf_101 @apf_101) (And.intro @tyc_102 @zer_102)) (And.intro (And.intro @tyc_103 @zer_103) (And.intro @tyc_104 @zer_104)))) (And.intro (And.intro (And.intro (And.intro @tyc_105 @zer_105) (And.intro @tyc_106 @zer_106)) (And.intro (And.intro @tyc_107 @zer_107) (And.intro @tyc_108 @zer_108))) (And.intro (And.intro (And.intro @tyc_109 @zer_109) (And.intro @tyc_110 @zer_110)) (And.intro (And.intro @tyc_111 @zer_111) (And.intro @tyc_112 (And.intro @zer_112 @tyc_113)))))) (And.intro (And.intro (And.intro (And.intro (And.intro @zer_113 @tyc_114) (And.intro @zer_114 @zds_114)) (And.intro (And.intro @fld_114_0 @fld_114_1) (And.intro @fld_114_2 @fld_114_3))) (And.intro (And.intro (And.intro @stf_114 @arr_114) (And.intro @apf_114 @tyc_115)) (And.intro (And.intro @zer_115 @zds_115) (And.intro @fld_115_0 (And.intro @fld_115_1 @fld_115_2))))) (And.intro (And.intro (And.intro (And.intro @fld_115_3 @stf_115) (And.intro @arr_115 @apf_115)) (And.intro (And.intro @tyc_116 @zer_116) (And.intro @zds_116 @arr_116))) (And.intro (And.intro (And.intro @stf_116 @tyc_117) (And.intro @zer_117 @zds_117)) (And.intro (And.intro @stf_117 @arr_117) (And.intro @tyc_118 (And.intro @zer_118 @zds_118))))))) (And.intro (And.intro (And.intro (And.intro (And.intro (And.intro @stf_118 @arr_118) (And.intro @tyc_119 @zer_119)) (And.intro (And.intro @zds_119 @und_119) (And.intro @apf_119 @tyc_120))) (And.intro (And.intro (And.intro @zer_120 @zds_120) (And.intro @und_120 @apf_120)) (And.intro (And.intro @tyc_121 @zer_121) (And.intro @zds_121 @und_121)))) (And.intro (And.intro (And.intro (And.intro @apf_121 @tyc_122) (And.intro @zer_122 @tyc_123)) (And.intro (And.intro @zer_123 @zds_123) (And.intro @apf_123 @tyc_124))) (And.intro (And.intro (And.intro @zer_124 @zds_124) (And.intro @und_124 @apf_124)) (And.intro (And.intro @tyc_125 @zer_125) (And.intro @zds_125 (And.intro @und_125 @apf_125)))))) (And.intro (And.intro (And.intro (And.intro (And.intro @tyc_126 @zer_126) (And.intro @zds_126 @fld_126_0)) (And.intro (And.intro @fld_126_1 @fld_126_2) (And.intro @fld_126_3 @fld_126_4))) (And.intro (And.intro (And.intro @fld_126_5 @fld_126_6) (And.intro @fld_126_7 @fld_126_8)) (And.intro (And.intro @fld_126_9 @fld_126_10) (And.intro @stf_126 (And.intro @arr_126 @apf_126))))) (And.intro (And.intro (And.intro (And.intro @tyc_127 @zer_127) (And.intro @zds_127 @fld_127_0)) (And.intro (And.intro @fld_127_1 @fld_127_2) (And.intro @fld_127_3 @fld_127_4))) (And.intro (And.intro (And.intro @fld_127_5 @fld_127_6) (And.intro @fld_127_7 @fld_127_8)) (And.intro (And.intro @fld_127_9 @fld_127_10) (And.intro @stf_127 (And.intro @arr_127 @apf_127))))))))))
theorem fA : type_of% fA0 := fA0
end Go.Proofs.Ytninkfpeeemcoaa.Ab
