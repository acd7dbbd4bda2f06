/- Facts of the seat: its types and its functions, by number. -/
import Derived.Test.YtdgeocjchnandaaZAbV
import Derived.Test.YtdgeocjchnandaaProg
import Derived.KernelRfl
namespace Go.Proofs.Ytdgeocjchnandaa.Ab
open Go Go.RowKit
set_option linter.defProp false
theorem tyc_1 : tyc Try.prog 1 = some (false, 1) := by kernel_rfl
theorem zer_1 : zer Try.prog 1 = some [Go.Value.nilFunc] := by kernel_rfl
theorem tyc_2 : tyc Try.prog 2 = some (false, 1) := by kernel_rfl
theorem zer_2 : zer Try.prog 2 = some [Go.Value.int Go.IntKind.i64 0] := by kernel_rfl
theorem zds_2 : zds Try.prog 2 = some [.v (Go.Value.int Go.IntKind.i64 0)] := by kernel_rfl
theorem und_2 : Try.prog.underlying 2 = some (.int .i64) := by kernel_rfl
theorem apf_2 : apf Try.prog 2 = some (1, 8) := by kernel_rfl
theorem tyc_3 : tyc Try.prog 3 = some (false, 1) := by kernel_rfl
theorem zer_3 : zer Try.prog 3 = some [Go.Value.int Go.IntKind.i64 0] := by kernel_rfl
theorem zds_3 : zds Try.prog 3 = some [.v (Go.Value.int Go.IntKind.i64 0)] := by kernel_rfl
theorem und_3 : Try.prog.underlying 3 = some (.int .i64) := by kernel_rfl
theorem apf_3 : apf Try.prog 3 = some (1, 8) := by kernel_rfl
theorem tyc_4 : tyc Try.prog 4 = some (false, 1) := by kernel_rfl
theorem zer_4 : zer Try.prog 4 = some [Go.Value.bool false] := by kernel_rfl
theorem zds_4 : zds Try.prog 4 = some [.v (Go.Value.bool false)] := by kernel_rfl
theorem und_4 : Try.prog.underlying 4 = some .bool := by kernel_rfl
theorem apf_4 : apf Try.prog 4 = some (1, 1) := by kernel_rfl
theorem tyc_5 : tyc Try.prog 5 = some (false, 1) := by kernel_rfl
theorem zer_5 : zer Try.prog 5 = some [Go.Value.int Go.IntKind.u8 0] := by kernel_rfl
theorem zds_5 : zds Try.prog 5 = some [.v (Go.Value.int Go.IntKind.u8 0)] := by kernel_rfl
theorem und_5 : Try.prog.underlying 5 = some (.int .u8) := by kernel_rfl
theorem apf_5 : apf Try.prog 5 = some (1, 1) := by kernel_rfl
theorem tyc_6 : tyc Try.prog 6 = some (false, 1) := by kernel_rfl
theorem zer_6 : zer Try.prog 6 = some [Go.Value.int Go.IntKind.u8 0] := by kernel_rfl
theorem zds_6 : zds Try.prog 6 = some [.v (Go.Value.int Go.IntKind.u8 0)] := by kernel_rfl
theorem und_6 : Try.prog.underlying 6 = some (.int .u8) := by kernel_rfl
theorem apf_6 : apf Try.prog 6 = some (1, 1) := by kernel_rfl
theorem tyc_7 : tyc Try.prog 7 = some (true, 4) := by kernel_rfl
theorem zer_7 : zer Try.prog 7 = some [Go.Value.int Go.IntKind.i64 0, Go.Value.int Go.IntKind.i64 0, Go.Value.bool false, Go.Value.int Go.IntKind.u8 0] := by kernel_rfl
theorem zds_7 : zds Try.prog 7 = some [.v (Go.Value.int Go.IntKind.i64 0), .v (Go.Value.int Go.IntKind.i64 0), .v (Go.Value.bool false), .v (Go.Value.int Go.IntKind.u8 0)] := by kernel_rfl
theorem fld_7_0 : fld Try.prog 7 0 = some (0, 2) := by kernel_rfl
theorem fld_7_1 : fld Try.prog 7 1 = some (1, 3) := by kernel_rfl
theorem fld_7_2 : fld Try.prog 7 2 = some (2, 4) := by kernel_rfl
theorem fld_7_3 : fld Try.prog 7 3 = some (3, 6) := by kernel_rfl
theorem stf_7 : stf Try.prog 7 = some [(0, 1), (1, 1), (2, 1), (3, 1)] := by kernel_rfl
theorem arr_7 : arr Try.prog 7 = none := by kernel_rfl
theorem apf_7 : apf Try.prog 7 = some (4, 24) := by kernel_rfl
theorem tyc_8 : tyc Try.prog 8 = some (true, 4) := by kernel_rfl
theorem zer_8 : zer Try.prog 8 = some [Go.Value.int Go.IntKind.i64 0, Go.Value.int Go.IntKind.i64 0, Go.Value.bool false, Go.Value.int Go.IntKind.u8 0] := by kernel_rfl
theorem zds_8 : zds Try.prog 8 = some [.v (Go.Value.int Go.IntKind.i64 0), .v (Go.Value.int Go.IntKind.i64 0), .v (Go.Value.bool false), .v (Go.Value.int Go.IntKind.u8 0)] := by kernel_rfl
theorem fld_8_0 : fld Try.prog 8 0 = some (0, 2) := by kernel_rfl
theorem fld_8_1 : fld Try.prog 8 1 = some (1, 3) := by kernel_rfl
theorem fld_8_2 : fld Try.prog 8 2 = some (2, 4) := by kernel_rfl
theorem fld_8_3 : fld Try.prog 8 3 = some (3, 6) := by kernel_rfl
theorem stf_8 : stf Try.prog 8 = some [(0, 1), (1, 1), (2, 1), (3, 1)] := by kernel_rfl
theorem arr_8 : arr Try.prog 8 = none := by kernel_rfl
theorem apf_8 : apf Try.prog 8 = some (4, 24) := by kernel_rfl
theorem tyc_9 : tyc Try.prog 9 = some (false, 1) := by kernel_rfl
theorem zer_9 : zer Try.prog 9 = some [Go.Value.string { data := #[] }] := by kernel_rfl
theorem zds_9 : zds Try.prog 9 = some [.v (Go.Value.string { data := #[] })] := by kernel_rfl
theorem apf_9 : apf Try.prog 9 = some (1, 16) := by kernel_rfl
theorem tyc_10 : tyc Try.prog 10 = some (false, 1) := by kernel_rfl
theorem zer_10 : zer Try.prog 10 = some [Go.Value.string { data := #[] }] := by kernel_rfl
theorem zds_10 : zds Try.prog 10 = some [.v (Go.Value.string { data := #[] })] := by kernel_rfl
theorem apf_10 : apf Try.prog 10 = some (1, 16) := by kernel_rfl
theorem tyc_11 : tyc Try.prog 11 = some (false, 1) := by kernel_rfl
theorem zer_11 : zer Try.prog 11 = some [Go.Value.string { data := #[] }] := by kernel_rfl
theorem zds_11 : zds Try.prog 11 = some [.v (Go.Value.string { data := #[] })] := by kernel_rfl
theorem apf_11 : apf Try.prog 11 = some (1, 16) := by kernel_rfl
theorem tyc_12 : tyc Try.prog 12 = some (false, 1) := by kernel_rfl
theorem zer_12 : zer Try.prog 12 = some [Go.Value.int Go.IntKind.u64 0] := by kernel_rfl
theorem zds_12 : zds Try.prog 12 = some [.v (Go.Value.int Go.IntKind.u64 0)] := by kernel_rfl
theorem und_12 : Try.prog.underlying 12 = some (.int .u64) := by kernel_rfl
theorem apf_12 : apf Try.prog 12 = some (1, 8) := by kernel_rfl
theorem tyc_13 : tyc Try.prog 13 = some (true, 2) := by kernel_rfl
theorem zer_13 : zer Try.prog 13 = some [Go.Value.string { data := #[] }, Go.Value.int Go.IntKind.u64 0] := by kernel_rfl
theorem zds_13 : zds Try.prog 13 = some [.v (Go.Value.string { data := #[] }), .v (Go.Value.int Go.IntKind.u64 0)] := by kernel_rfl
theorem fld_13_0 : fld Try.prog 13 0 = some (0, 9) := by kernel_rfl
theorem fld_13_1 : fld Try.prog 13 1 = some (1, 12) := by kernel_rfl
theorem stf_13 : stf Try.prog 13 = some [(0, 1), (1, 1)] := by kernel_rfl
theorem arr_13 : arr Try.prog 13 = none := by kernel_rfl
theorem apf_13 : apf Try.prog 13 = some (2, 24) := by kernel_rfl
theorem tyc_14 : tyc Try.prog 14 = some (true, 2) := by kernel_rfl
theorem zer_14 : zer Try.prog 14 = some [Go.Value.string { data := #[] }, Go.Value.int Go.IntKind.u64 0] := by kernel_rfl
theorem zds_14 : zds Try.prog 14 = some [.v (Go.Value.string { data := #[] }), .v (Go.Value.int Go.IntKind.u64 0)] := by kernel_rfl
theorem fld_14_0 : fld Try.prog 14 0 = some (0, 9) := by kernel_rfl
theorem fld_14_1 : fld Try.prog 14 1 = some (1, 12) := by kernel_rfl
theorem stf_14 : stf Try.prog 14 = some [(0, 1), (1, 1)] := by kernel_rfl
theorem arr_14 : arr Try.prog 14 = none := by kernel_rfl
theorem apf_14 : apf Try.prog 14 = some (2, 24) := by kernel_rfl
theorem tyc_15 : tyc Try.prog 15 = some (false, 1) := by kernel_rfl
theorem zer_15 : zer Try.prog 15 = some [Go.Value.pointer none] := by kernel_rfl
theorem zds_15 : zds Try.prog 15 = some [.v (Go.Value.pointer none)] := by kernel_rfl
theorem apf_15 : apf Try.prog 15 = some (1, 8) := by kernel_rfl
theorem tyc_16 : tyc Try.prog 16 = some (false, 1) := by kernel_rfl
theorem zer_16 : zer Try.prog 16 = some [Go.Value.pointer none] := by kernel_rfl
theorem zds_16 : zds Try.prog 16 = some [.v (Go.Value.pointer none)] := by kernel_rfl
theorem apf_16 : apf Try.prog 16 = some (1, 8) := by kernel_rfl
theorem tyc_17 : tyc Try.prog 17 = some (false, 1) := by kernel_rfl
theorem zer_17 : zer Try.prog 17 = some [Go.Value.pointer none] := by kernel_rfl
theorem zds_17 : zds Try.prog 17 = some [.v (Go.Value.pointer none)] := by kernel_rfl
theorem apf_17 : apf Try.prog 17 = some (1, 8) := by kernel_rfl
theorem tyc_18 : tyc Try.prog 18 = some (true, 1) := by kernel_rfl
theorem zer_18 : zer Try.prog 18 = some [Go.Value.pointer none] := by kernel_rfl
theorem zds_18 : zds Try.prog 18 = some [.v (Go.Value.pointer none)] := by kernel_rfl
theorem fld_18_0 : fld Try.prog 18 0 = some (0, 17) := by kernel_rfl
theorem stf_18 : stf Try.prog 18 = some [(0, 1)] := by kernel_rfl
theorem arr_18 : arr Try.prog 18 = none := by kernel_rfl
theorem apf_18 : apf Try.prog 18 = some (1, 8) := by kernel_rfl
theorem tyc_19 : tyc Try.prog 19 = some (true, 1) := by kernel_rfl
theorem zer_19 : zer Try.prog 19 = some [Go.Value.pointer none] := by kernel_rfl
theorem zds_19 : zds Try.prog 19 = some [.v (Go.Value.pointer none)] := by kernel_rfl
theorem fld_19_0 : fld Try.prog 19 0 = some (0, 17) := by kernel_rfl
theorem stf_19 : stf Try.prog 19 = some [(0, 1)] := by kernel_rfl
theorem arr_19 : arr Try.prog 19 = none := by kernel_rfl
theorem apf_19 : apf Try.prog 19 = some (1, 8) := by kernel_rfl
theorem tyc_21 : tyc Try.prog 21 = some (false, 1) := by kernel_rfl
theorem zer_21 : zer Try.prog 21 = some [Go.Value.int Go.IntKind.i32 0] := by kernel_rfl
theorem zds_21 : zds Try.prog 21 = some [.v (Go.Value.int Go.IntKind.i32 0)] := by kernel_rfl
theorem und_21 : Try.prog.underlying 21 = some (.int .i32) := by kernel_rfl
theorem apf_21 : apf Try.prog 21 = some (1, 4) := by kernel_rfl
theorem tyc_22 : tyc Try.prog 22 = some (false, 1) := by kernel_rfl
theorem zer_22 : zer Try.prog 22 = some [Go.Value.slice none 0 0] := by kernel_rfl
theorem zds_22 : zds Try.prog 22 = some [.sl 2 []] := by kernel_rfl
theorem elt_22 : elt Try.prog 22 = some (24, 2) := by kernel_rfl
theorem apf_22 : apf Try.prog 22 = some (1, 24) := by kernel_rfl
theorem tyc_23 : tyc Try.prog 23 = some (true, 3) := by kernel_rfl
theorem zer_23 : zer Try.prog 23 = some [Go.Value.int Go.IntKind.u8 0, Go.Value.int Go.IntKind.u8 0, Go.Value.int Go.IntKind.u8 0] := by kernel_rfl
theorem zds_23 : zds Try.prog 23 = some [.v (Go.Value.int Go.IntKind.u8 0), .v (Go.Value.int Go.IntKind.u8 0), .v (Go.Value.int Go.IntKind.u8 0)] := by kernel_rfl
theorem arr_23 : arr Try.prog 23 = some (3, 5, 1) := by kernel_rfl
theorem stf_23 : stf Try.prog 23 = none := by kernel_rfl
theorem apf_23 : apf Try.prog 23 = some (3, 3) := by kernel_rfl
theorem tyc_24 : tyc Try.prog 24 = some (true, 2) := by kernel_rfl
theorem zer_24 : zer Try.prog 24 = some [Go.Value.int Go.IntKind.u8 0, Go.Value.int Go.IntKind.u8 0] := by kernel_rfl
theorem zds_24 : zds Try.prog 24 = some [.v (Go.Value.int Go.IntKind.u8 0), .v (Go.Value.int Go.IntKind.u8 0)] := by kernel_rfl
theorem arr_24 : arr Try.prog 24 = some (2, 5, 1) := by kernel_rfl
theorem stf_24 : stf Try.prog 24 = none := by kernel_rfl
theorem apf_24 : apf Try.prog 24 = some (2, 2) := by kernel_rfl
theorem tyc_25 : tyc Try.prog 25 = some (true, 9) := by kernel_rfl
theorem zer_25 : zer Try.prog 25 = some [Go.Value.slice none 0 0, Go.Value.int Go.IntKind.u8 0, Go.Value.int Go.IntKind.u8 0, Go.Value.int Go.IntKind.u8 0, Go.Value.int Go.IntKind.u8 0, Go.Value.int Go.IntKind.u8 0, Go.Value.int Go.IntKind.u8 0, Go.Value.int Go.IntKind.u8 0, Go.Value.int Go.IntKind.u8 0] := by kernel_rfl
theorem zds_25 : zds Try.prog 25 = some [.v (Go.Value.slice none 0 0), .v (Go.Value.int Go.IntKind.u8 0), .v (Go.Value.int Go.IntKind.u8 0), .v (Go.Value.int Go.IntKind.u8 0), .v (Go.Value.int Go.IntKind.u8 0), .v (Go.Value.int Go.IntKind.u8 0), .v (Go.Value.int Go.IntKind.u8 0), .v (Go.Value.int Go.IntKind.u8 0), .v (Go.Value.int Go.IntKind.u8 0)] := by kernel_rfl
theorem fld_25_0 : fld Try.prog 25 0 = some (0, 22) := by kernel_rfl
theorem fld_25_1 : fld Try.prog 25 1 = some (1, 23) := by kernel_rfl
theorem fld_25_2 : fld Try.prog 25 2 = some (4, 23) := by kernel_rfl
theorem fld_25_3 : fld Try.prog 25 3 = some (7, 24) := by kernel_rfl
theorem stf_25 : stf Try.prog 25 = some [(0, 1), (1, 3), (4, 3), (7, 2)] := by kernel_rfl
theorem arr_25 : arr Try.prog 25 = none := by kernel_rfl
theorem apf_25 : apf Try.prog 25 = some (9, 32) := by kernel_rfl
theorem tyc_26 : tyc Try.prog 26 = some (true, 9) := by kernel_rfl
theorem zer_26 : zer Try.prog 26 = some [Go.Value.slice none 0 0, Go.Value.int Go.IntKind.u8 0, Go.Value.int Go.IntKind.u8 0, Go.Value.int Go.IntKind.u8 0, Go.Value.int Go.IntKind.u8 0, Go.Value.int Go.IntKind.u8 0, Go.Value.int Go.IntKind.u8 0, Go.Value.int Go.IntKind.u8 0, Go.Value.int Go.IntKind.u8 0] := by kernel_rfl
theorem zds_26 : zds Try.prog 26 = some [.v (Go.Value.slice none 0 0), .v (Go.Value.int Go.IntKind.u8 0), .v (Go.Value.int Go.IntKind.u8 0), .v (Go.Value.int Go.IntKind.u8 0), .v (Go.Value.int Go.IntKind.u8 0), .v (Go.Value.int Go.IntKind.u8 0), .v (Go.Value.int Go.IntKind.u8 0), .v (Go.Value.int Go.IntKind.u8 0), .v (Go.Value.int Go.IntKind.u8 0)] := by kernel_rfl
theorem fld_26_0 : fld Try.prog 26 0 = some (0, 22) := by kernel_rfl
theorem fld_26_1 : fld Try.prog 26 1 = some (1, 23) := by kernel_rfl
theorem fld_26_2 : fld Try.prog 26 2 = some (4, 23) := by kernel_rfl
theorem fld_26_3 : fld Try.prog 26 3 = some (7, 24) := by kernel_rfl
theorem stf_26 : stf Try.prog 26 = some [(0, 1), (1, 3), (4, 3), (7, 2)] := by kernel_rfl
theorem arr_26 : arr Try.prog 26 = none := by kernel_rfl
theorem apf_26 : apf Try.prog 26 = some (9, 32) := by kernel_rfl
theorem tyc_27 : tyc Try.prog 27 = some (false, 1) := by kernel_rfl
theorem zer_27 : zer Try.prog 27 = some [Go.Value.slice none 0 0] := by kernel_rfl
theorem zds_27 : zds Try.prog 27 = some [.sl 2 []] := by kernel_rfl
theorem elt_27 : elt Try.prog 27 = some (94, 2) := by kernel_rfl
theorem apf_27 : apf Try.prog 27 = some (1, 24) := by kernel_rfl
theorem tyc_28 : tyc Try.prog 28 = some (false, 1) := by kernel_rfl
theorem zer_28 : zer Try.prog 28 = some [Go.Value.int Go.IntKind.i64 0] := by kernel_rfl
theorem zds_28 : zds Try.prog 28 = some [.v (Go.Value.int Go.IntKind.i64 0)] := by kernel_rfl
theorem und_28 : Try.prog.underlying 28 = some (.int .i64) := by kernel_rfl
theorem apf_28 : apf Try.prog 28 = some (1, 8) := by kernel_rfl
theorem tyc_30 : tyc Try.prog 30 = some (false, 1) := by kernel_rfl
theorem zer_30 : zer Try.prog 30 = some [Go.Value.nilFunc] := by kernel_rfl
theorem tyc_31 : tyc Try.prog 31 = some (false, 1) := by kernel_rfl
theorem zer_31 : zer Try.prog 31 = some [Go.Value.slice none 0 0] := by kernel_rfl
theorem zds_31 : zds Try.prog 31 = some [.sl 2 []] := by kernel_rfl
theorem elt_31 : elt Try.prog 31 = some (48, 2) := by kernel_rfl
theorem apf_31 : apf Try.prog 31 = some (1, 24) := by kernel_rfl
theorem tyc_32 : tyc Try.prog 32 = some (false, 1) := by kernel_rfl
theorem zer_32 : zer Try.prog 32 = some [Go.Value.slice none 0 0] := by kernel_rfl
theorem zds_32 : zds Try.prog 32 = some [.sl 6 []] := by kernel_rfl
theorem elt_32 : elt Try.prog 32 = some (64, 6) := by kernel_rfl
theorem apf_32 : apf Try.prog 32 = some (1, 24) := by kernel_rfl
theorem tyc_33 : tyc Try.prog 33 = some (true, 4) := by kernel_rfl
theorem zer_33 : zer Try.prog 33 = some [Go.Value.slice none 0 0, Go.Value.slice none 0 0, Go.Value.int Go.IntKind.i64 0, Go.Value.slice none 0 0] := by kernel_rfl
theorem zds_33 : zds Try.prog 33 = some [.v (Go.Value.slice none 0 0), .v (Go.Value.slice none 0 0), .v (Go.Value.int Go.IntKind.i64 0), .v (Go.Value.slice none 0 0)] := by kernel_rfl
theorem fld_33_0 : fld Try.prog 33 0 = some (0, 31) := by kernel_rfl
theorem fld_33_1 : fld Try.prog 33 1 = some (1, 31) := by kernel_rfl
theorem fld_33_2 : fld Try.prog 33 2 = some (2, 3) := by kernel_rfl
theorem fld_33_3 : fld Try.prog 33 3 = some (3, 32) := by kernel_rfl
theorem stf_33 : stf Try.prog 33 = some [(0, 1), (1, 1), (2, 1), (3, 1)] := by kernel_rfl
theorem arr_33 : arr Try.prog 33 = none := by kernel_rfl
theorem apf_33 : apf Try.prog 33 = some (4, 80) := by kernel_rfl
theorem tyc_34 : tyc Try.prog 34 = some (true, 4) := by kernel_rfl
theorem zer_34 : zer Try.prog 34 = some [Go.Value.slice none 0 0, Go.Value.slice none 0 0, Go.Value.int Go.IntKind.i64 0, Go.Value.slice none 0 0] := by kernel_rfl
theorem zds_34 : zds Try.prog 34 = some [.v (Go.Value.slice none 0 0), .v (Go.Value.slice none 0 0), .v (Go.Value.int Go.IntKind.i64 0), .v (Go.Value.slice none 0 0)] := by kernel_rfl
theorem fld_34_0 : fld Try.prog 34 0 = some (0, 31) := by kernel_rfl
theorem fld_34_1 : fld Try.prog 34 1 = some (1, 31) := by kernel_rfl
theorem fld_34_2 : fld Try.prog 34 2 = some (2, 3) := by kernel_rfl
theorem fld_34_3 : fld Try.prog 34 3 = some (3, 32) := by kernel_rfl
theorem stf_34 : stf Try.prog 34 = some [(0, 1), (1, 1), (2, 1), (3, 1)] := by kernel_rfl
theorem arr_34 : arr Try.prog 34 = none := by kernel_rfl
theorem apf_34 : apf Try.prog 34 = some (4, 80) := by kernel_rfl
theorem tyc_35 : tyc Try.prog 35 = some (false, 1) := by kernel_rfl
theorem zer_35 : zer Try.prog 35 = some [Go.Value.nilFunc] := by kernel_rfl
theorem tyc_36 : tyc Try.prog 36 = some (true, 4) := by kernel_rfl
theorem zer_36 : zer Try.prog 36 = some [Go.Value.int Go.IntKind.i64 0, Go.Value.int Go.IntKind.i64 0, Go.Value.int Go.IntKind.i64 0, Go.Value.int Go.IntKind.i64 0] := by kernel_rfl
theorem zds_36 : zds Try.prog 36 = some [.v (Go.Value.int Go.IntKind.i64 0), .v (Go.Value.int Go.IntKind.i64 0), .v (Go.Value.int Go.IntKind.i64 0), .v (Go.Value.int Go.IntKind.i64 0)] := by kernel_rfl
theorem fld_36_0 : fld Try.prog 36 0 = some (0, 3) := by kernel_rfl
theorem fld_36_1 : fld Try.prog 36 1 = some (1, 3) := by kernel_rfl
theorem fld_36_2 : fld Try.prog 36 2 = some (2, 3) := by kernel_rfl
theorem fld_36_3 : fld Try.prog 36 3 = some (3, 3) := by kernel_rfl
theorem stf_36 : stf Try.prog 36 = some [(0, 1), (1, 1), (2, 1), (3, 1)] := by kernel_rfl
theorem arr_36 : arr Try.prog 36 = none := by kernel_rfl
theorem apf_36 : apf Try.prog 36 = some (4, 32) := by kernel_rfl
theorem tyc_37 : tyc Try.prog 37 = some (true, 4) := by kernel_rfl
theorem zer_37 : zer Try.prog 37 = some [Go.Value.int Go.IntKind.i64 0, Go.Value.int Go.IntKind.i64 0, Go.Value.int Go.IntKind.i64 0, Go.Value.int Go.IntKind.i64 0] := by kernel_rfl
theorem zds_37 : zds Try.prog 37 = some [.v (Go.Value.int Go.IntKind.i64 0), .v (Go.Value.int Go.IntKind.i64 0), .v (Go.Value.int Go.IntKind.i64 0), .v (Go.Value.int Go.IntKind.i64 0)] := by kernel_rfl
theorem fld_37_0 : fld Try.prog 37 0 = some (0, 3) := by kernel_rfl
theorem fld_37_1 : fld Try.prog 37 1 = some (1, 3) := by kernel_rfl
theorem fld_37_2 : fld Try.prog 37 2 = some (2, 3) := by kernel_rfl
theorem fld_37_3 : fld Try.prog 37 3 = some (3, 3) := by kernel_rfl
theorem stf_37 : stf Try.prog 37 = some [(0, 1), (1, 1), (2, 1), (3, 1)] := by kernel_rfl
theorem arr_37 : arr Try.prog 37 = none := by kernel_rfl
theorem apf_37 : apf Try.prog 37 = some (4, 32) := by kernel_rfl
theorem tyc_38 : tyc Try.prog 38 = some (false, 1) := by kernel_rfl
theorem zer_38 : zer Try.prog 38 = some [Go.Value.nilFunc] := by kernel_rfl
theorem tyc_39 : tyc Try.prog 39 = some (false, 1) := by kernel_rfl
theorem zer_39 : zer Try.prog 39 = some [Go.Value.slice none 0 0] := by kernel_rfl
theorem zds_39 : zds Try.prog 39 = some [.sl 1 []] := by kernel_rfl
theorem elt_39 : elt Try.prog 39 = some (3, 1) := by kernel_rfl
theorem apf_39 : apf Try.prog 39 = some (1, 24) := by kernel_rfl
theorem tyc_41 : tyc Try.prog 41 = some (false, 1) := by kernel_rfl
theorem zer_41 : zer Try.prog 41 = some [Go.Value.nilFunc] := by kernel_rfl
theorem tyc_43 : tyc Try.prog 43 = some (false, 1) := by kernel_rfl
theorem zer_43 : zer Try.prog 43 = some [Go.Value.nilFunc] := by kernel_rfl
theorem tyc_44 : tyc Try.prog 44 = some (true, 2) := by kernel_rfl
theorem zer_44 : zer Try.prog 44 = some [Go.Value.int Go.IntKind.i64 0, Go.Value.int Go.IntKind.i64 0] := by kernel_rfl
theorem zds_44 : zds Try.prog 44 = some [.v (Go.Value.int Go.IntKind.i64 0), .v (Go.Value.int Go.IntKind.i64 0)] := by kernel_rfl
theorem fld_44_0 : fld Try.prog 44 0 = some (0, 3) := by kernel_rfl
theorem fld_44_1 : fld Try.prog 44 1 = some (1, 3) := by kernel_rfl
theorem stf_44 : stf Try.prog 44 = some [(0, 1), (1, 1)] := by kernel_rfl
theorem arr_44 : arr Try.prog 44 = none := by kernel_rfl
theorem apf_44 : apf Try.prog 44 = some (2, 16) := by kernel_rfl
theorem tyc_45 : tyc Try.prog 45 = some (true, 2) := by kernel_rfl
theorem zer_45 : zer Try.prog 45 = some [Go.Value.int Go.IntKind.i64 0, Go.Value.int Go.IntKind.i64 0] := by kernel_rfl
theorem zds_45 : zds Try.prog 45 = some [.v (Go.Value.int Go.IntKind.i64 0), .v (Go.Value.int Go.IntKind.i64 0)] := by kernel_rfl
theorem fld_45_0 : fld Try.prog 45 0 = some (0, 3) := by kernel_rfl
theorem fld_45_1 : fld Try.prog 45 1 = some (1, 3) := by kernel_rfl
theorem stf_45 : stf Try.prog 45 = some [(0, 1), (1, 1)] := by kernel_rfl
theorem arr_45 : arr Try.prog 45 = none := by kernel_rfl
theorem apf_45 : apf Try.prog 45 = some (2, 16) := by kernel_rfl
theorem tyc_46 : tyc Try.prog 46 = some (false, 1) := by kernel_rfl
theorem zer_46 : zer Try.prog 46 = some [Go.Value.nilFunc] := by kernel_rfl
theorem tyc_47 : tyc Try.prog 47 = some (true, 2) := by kernel_rfl
theorem zer_47 : zer Try.prog 47 = some [Go.Value.int Go.IntKind.i64 0, Go.Value.int Go.IntKind.i64 0] := by kernel_rfl
theorem zds_47 : zds Try.prog 47 = some [.v (Go.Value.int Go.IntKind.i64 0), .v (Go.Value.int Go.IntKind.i64 0)] := by kernel_rfl
theorem fld_47_0 : fld Try.prog 47 0 = some (0, 3) := by kernel_rfl
theorem fld_47_1 : fld Try.prog 47 1 = some (1, 3) := by kernel_rfl
theorem stf_47 : stf Try.prog 47 = some [(0, 1), (1, 1)] := by kernel_rfl
theorem arr_47 : arr Try.prog 47 = none := by kernel_rfl
theorem apf_47 : apf Try.prog 47 = some (2, 16) := by kernel_rfl
theorem tyc_48 : tyc Try.prog 48 = some (true, 2) := by kernel_rfl
theorem zer_48 : zer Try.prog 48 = some [Go.Value.int Go.IntKind.i64 0, Go.Value.int Go.IntKind.i64 0] := by kernel_rfl
theorem zds_48 : zds Try.prog 48 = some [.v (Go.Value.int Go.IntKind.i64 0), .v (Go.Value.int Go.IntKind.i64 0)] := by kernel_rfl
theorem fld_48_0 : fld Try.prog 48 0 = some (0, 3) := by kernel_rfl
theorem fld_48_1 : fld Try.prog 48 1 = some (1, 3) := by kernel_rfl
theorem stf_48 : stf Try.prog 48 = some [(0, 1), (1, 1)] := by kernel_rfl
theorem arr_48 : arr Try.prog 48 = none := by kernel_rfl
theorem apf_48 : apf Try.prog 48 = some (2, 16) := by kernel_rfl
theorem tyc_50 : tyc Try.prog 50 = some (false, 1) := by kernel_rfl
theorem zer_50 : zer Try.prog 50 = some [Go.Value.nilFunc] := by kernel_rfl
theorem tyc_51 : tyc Try.prog 51 = some (false, 1) := by kernel_rfl
theorem zer_51 : zer Try.prog 51 = some [Go.Value.nilFunc] := by kernel_rfl
theorem tyc_52 : tyc Try.prog 52 = some (false, 1) := by kernel_rfl
theorem zer_52 : zer Try.prog 52 = some [Go.Value.nilFunc] := by kernel_rfl
theorem tyc_53 : tyc Try.prog 53 = some (true, 6) := by kernel_rfl
theorem zer_53 : zer Try.prog 53 = some [Go.Value.slice none 0 0, Go.Value.slice none 0 0, Go.Value.int Go.IntKind.i64 0, Go.Value.slice none 0 0, Go.Value.slice none 0 0, Go.Value.slice none 0 0] := by kernel_rfl
theorem zds_53 : zds Try.prog 53 = some [.v (Go.Value.slice none 0 0), .v (Go.Value.slice none 0 0), .v (Go.Value.int Go.IntKind.i64 0), .v (Go.Value.slice none 0 0), .v (Go.Value.slice none 0 0), .v (Go.Value.slice none 0 0)] := by kernel_rfl
theorem fld_53_0 : fld Try.prog 53 0 = some (0, 34) := by kernel_rfl
theorem fld_53_1 : fld Try.prog 53 1 = some (4, 31) := by kernel_rfl
theorem fld_53_2 : fld Try.prog 53 2 = some (5, 31) := by kernel_rfl
theorem stf_53 : stf Try.prog 53 = some [(0, 4), (4, 1), (5, 1)] := by kernel_rfl
theorem arr_53 : arr Try.prog 53 = none := by kernel_rfl
theorem apf_53 : apf Try.prog 53 = some (6, 128) := by kernel_rfl
theorem tyc_54 : tyc Try.prog 54 = some (true, 6) := by kernel_rfl
theorem zer_54 : zer Try.prog 54 = some [Go.Value.slice none 0 0, Go.Value.slice none 0 0, Go.Value.int Go.IntKind.i64 0, Go.Value.slice none 0 0, Go.Value.slice none 0 0, Go.Value.slice none 0 0] := by kernel_rfl
theorem zds_54 : zds Try.prog 54 = some [.v (Go.Value.slice none 0 0), .v (Go.Value.slice none 0 0), .v (Go.Value.int Go.IntKind.i64 0), .v (Go.Value.slice none 0 0), .v (Go.Value.slice none 0 0), .v (Go.Value.slice none 0 0)] := by kernel_rfl
theorem fld_54_0 : fld Try.prog 54 0 = some (0, 34) := by kernel_rfl
theorem fld_54_1 : fld Try.prog 54 1 = some (4, 31) := by kernel_rfl
theorem fld_54_2 : fld Try.prog 54 2 = some (5, 31) := by kernel_rfl
theorem stf_54 : stf Try.prog 54 = some [(0, 4), (4, 1), (5, 1)] := by kernel_rfl
theorem arr_54 : arr Try.prog 54 = none := by kernel_rfl
theorem apf_54 : apf Try.prog 54 = some (6, 128) := by kernel_rfl
theorem tyc_56 : tyc Try.prog 56 = some (false, 1) := by kernel_rfl
theorem zer_56 : zer Try.prog 56 = some [Go.Value.nilFunc] := by kernel_rfl
theorem tyc_57 : tyc Try.prog 57 = some (false, 1) := by kernel_rfl
theorem zer_57 : zer Try.prog 57 = some [Go.Value.slice none 0 0] := by kernel_rfl
theorem zds_57 : zds Try.prog 57 = some [.sl 4 []] := by kernel_rfl
theorem elt_57 : elt Try.prog 57 = some (90, 4) := by kernel_rfl
theorem apf_57 : apf Try.prog 57 = some (1, 24) := by kernel_rfl
theorem tyc_58 : tyc Try.prog 58 = some (true, 3) := by kernel_rfl
theorem zer_58 : zer Try.prog 58 = some [Go.Value.slice none 0 0, Go.Value.slice none 0 0, Go.Value.slice none 0 0] := by kernel_rfl
theorem zds_58 : zds Try.prog 58 = some [.v (Go.Value.slice none 0 0), .v (Go.Value.slice none 0 0), .v (Go.Value.slice none 0 0)] := by kernel_rfl
theorem fld_58_0 : fld Try.prog 58 0 = some (0, 39) := by kernel_rfl
theorem fld_58_1 : fld Try.prog 58 1 = some (1, 39) := by kernel_rfl
theorem fld_58_2 : fld Try.prog 58 2 = some (2, 57) := by kernel_rfl
theorem stf_58 : stf Try.prog 58 = some [(0, 1), (1, 1), (2, 1)] := by kernel_rfl
theorem arr_58 : arr Try.prog 58 = none := by kernel_rfl
theorem apf_58 : apf Try.prog 58 = some (3, 72) := by kernel_rfl
theorem tyc_59 : tyc Try.prog 59 = some (true, 3) := by kernel_rfl
theorem zer_59 : zer Try.prog 59 = some [Go.Value.slice none 0 0, Go.Value.slice none 0 0, Go.Value.slice none 0 0] := by kernel_rfl
theorem zds_59 : zds Try.prog 59 = some [.v (Go.Value.slice none 0 0), .v (Go.Value.slice none 0 0), .v (Go.Value.slice none 0 0)] := by kernel_rfl
theorem fld_59_0 : fld Try.prog 59 0 = some (0, 39) := by kernel_rfl
theorem fld_59_1 : fld Try.prog 59 1 = some (1, 39) := by kernel_rfl
theorem fld_59_2 : fld Try.prog 59 2 = some (2, 57) := by kernel_rfl
theorem stf_59 : stf Try.prog 59 = some [(0, 1), (1, 1), (2, 1)] := by kernel_rfl
theorem arr_59 : arr Try.prog 59 = none := by kernel_rfl
theorem apf_59 : apf Try.prog 59 = some (3, 72) := by kernel_rfl
theorem tyc_60 : tyc Try.prog 60 = some (false, 1) := by kernel_rfl
theorem zer_60 : zer Try.prog 60 = some [Go.Value.nilFunc] := by kernel_rfl
theorem tyc_61 : tyc Try.prog 61 = some (false, 1) := by kernel_rfl
theorem zer_61 : zer Try.prog 61 = some [Go.Value.nilFunc] := by kernel_rfl
theorem tyc_62 : tyc Try.prog 62 = some (false, 1) := by kernel_rfl
theorem zer_62 : zer Try.prog 62 = some [Go.Value.nilFunc] := by kernel_rfl
theorem tyc_63 : tyc Try.prog 63 = some (true, 6) := by kernel_rfl
theorem zer_63 : zer Try.prog 63 = some [Go.Value.int Go.IntKind.i64 0, Go.Value.int Go.IntKind.i64 0, Go.Value.int Go.IntKind.i64 0, Go.Value.int Go.IntKind.i64 0, Go.Value.int Go.IntKind.i64 0, Go.Value.int Go.IntKind.i64 0] := by kernel_rfl
theorem zds_63 : zds Try.prog 63 = some [.v (Go.Value.int Go.IntKind.i64 0), .v (Go.Value.int Go.IntKind.i64 0), .v (Go.Value.int Go.IntKind.i64 0), .v (Go.Value.int Go.IntKind.i64 0), .v (Go.Value.int Go.IntKind.i64 0), .v (Go.Value.int Go.IntKind.i64 0)] := by kernel_rfl
theorem fld_63_0 : fld Try.prog 63 0 = some (0, 48) := by kernel_rfl
theorem fld_63_1 : fld Try.prog 63 1 = some (2, 48) := by kernel_rfl
theorem fld_63_2 : fld Try.prog 63 2 = some (4, 48) := by kernel_rfl
theorem stf_63 : stf Try.prog 63 = some [(0, 2), (2, 2), (4, 2)] := by kernel_rfl
theorem arr_63 : arr Try.prog 63 = none := by kernel_rfl
theorem apf_63 : apf Try.prog 63 = some (6, 48) := by kernel_rfl
theorem tyc_64 : tyc Try.prog 64 = some (true, 6) := by kernel_rfl
theorem zer_64 : zer Try.prog 64 = some [Go.Value.int Go.IntKind.i64 0, Go.Value.int Go.IntKind.i64 0, Go.Value.int Go.IntKind.i64 0, Go.Value.int Go.IntKind.i64 0, Go.Value.int Go.IntKind.i64 0, Go.Value.int Go.IntKind.i64 0] := by kernel_rfl
theorem zds_64 : zds Try.prog 64 = some [.v (Go.Value.int Go.IntKind.i64 0), .v (Go.Value.int Go.IntKind.i64 0), .v (Go.Value.int Go.IntKind.i64 0), .v (Go.Value.int Go.IntKind.i64 0), .v (Go.Value.int Go.IntKind.i64 0), .v (Go.Value.int Go.IntKind.i64 0)] := by kernel_rfl
theorem fld_64_0 : fld Try.prog 64 0 = some (0, 48) := by kernel_rfl
theorem fld_64_1 : fld Try.prog 64 1 = some (2, 48) := by kernel_rfl
theorem fld_64_2 : fld Try.prog 64 2 = some (4, 48) := by kernel_rfl
theorem stf_64 : stf Try.prog 64 = some [(0, 2), (2, 2), (4, 2)] := by kernel_rfl
theorem arr_64 : arr Try.prog 64 = none := by kernel_rfl
theorem apf_64 : apf Try.prog 64 = some (6, 48) := by kernel_rfl
theorem tyc_65 : tyc Try.prog 65 = some (false, 1) := by kernel_rfl
theorem zer_65 : zer Try.prog 65 = some [Go.Value.nilFunc] := by kernel_rfl
theorem tyc_66 : tyc Try.prog 66 = some (false, 1) := by kernel_rfl
theorem zer_66 : zer Try.prog 66 = some [Go.Value.nilFunc] := by kernel_rfl
theorem tyc_67 : tyc Try.prog 67 = some (false, 1) := by kernel_rfl
theorem zer_67 : zer Try.prog 67 = some [Go.Value.nilFunc] := by kernel_rfl
theorem tyc_68 : tyc Try.prog 68 = some (false, 1) := by kernel_rfl
theorem zer_68 : zer Try.prog 68 = some [Go.Value.nilFunc] := by kernel_rfl
theorem tyc_69 : tyc Try.prog 69 = some (false, 1) := by kernel_rfl
theorem zer_69 : zer Try.prog 69 = some [Go.Value.nilFunc] := by kernel_rfl
theorem tyc_70 : tyc Try.prog 70 = some (true, 2) := by kernel_rfl
theorem zer_70 : zer Try.prog 70 = some [Go.Value.int Go.IntKind.i64 0, Go.Value.int Go.IntKind.i64 0] := by kernel_rfl
theorem zds_70 : zds Try.prog 70 = some [.v (Go.Value.int Go.IntKind.i64 0), .v (Go.Value.int Go.IntKind.i64 0)] := by kernel_rfl
theorem fld_70_0 : fld Try.prog 70 0 = some (0, 45) := by kernel_rfl
theorem stf_70 : stf Try.prog 70 = some [(0, 2)] := by kernel_rfl
theorem arr_70 : arr Try.prog 70 = none := by kernel_rfl
theorem apf_70 : apf Try.prog 70 = some (2, 16) := by kernel_rfl
theorem tyc_71 : tyc Try.prog 71 = some (true, 2) := by kernel_rfl
theorem zer_71 : zer Try.prog 71 = some [Go.Value.int Go.IntKind.i64 0, Go.Value.int Go.IntKind.i64 0] := by kernel_rfl
theorem zds_71 : zds Try.prog 71 = some [.v (Go.Value.int Go.IntKind.i64 0), .v (Go.Value.int Go.IntKind.i64 0)] := by kernel_rfl
theorem fld_71_0 : fld Try.prog 71 0 = some (0, 45) := by kernel_rfl
theorem stf_71 : stf Try.prog 71 = some [(0, 2)] := by kernel_rfl
theorem arr_71 : arr Try.prog 71 = none := by kernel_rfl
theorem apf_71 : apf Try.prog 71 = some (2, 16) := by kernel_rfl
theorem tyc_72 : tyc Try.prog 72 = some (false, 1) := by kernel_rfl
theorem zer_72 : zer Try.prog 72 = some [Go.Value.nilFunc] := by kernel_rfl
theorem tyc_73 : tyc Try.prog 73 = some (false, 1) := by kernel_rfl
theorem zer_73 : zer Try.prog 73 = some [Go.Value.nilFunc] := by kernel_rfl
theorem tyc_75 : tyc Try.prog 75 = some (false, 1) := by kernel_rfl
theorem zer_75 : zer Try.prog 75 = some [Go.Value.nilFunc] := by kernel_rfl
theorem tyc_76 : tyc Try.prog 76 = some (true, 4) := by kernel_rfl
theorem zer_76 : zer Try.prog 76 = some [Go.Value.int Go.IntKind.i64 0, Go.Value.int Go.IntKind.i64 0, Go.Value.int Go.IntKind.i64 0, Go.Value.int Go.IntKind.i64 0] := by kernel_rfl
theorem zds_76 : zds Try.prog 76 = some [.v (Go.Value.int Go.IntKind.i64 0), .v (Go.Value.int Go.IntKind.i64 0), .v (Go.Value.int Go.IntKind.i64 0), .v (Go.Value.int Go.IntKind.i64 0)] := by kernel_rfl
theorem fld_76_0 : fld Try.prog 76 0 = some (0, 48) := by kernel_rfl
theorem fld_76_1 : fld Try.prog 76 1 = some (2, 48) := by kernel_rfl
theorem stf_76 : stf Try.prog 76 = some [(0, 2), (2, 2)] := by kernel_rfl
theorem arr_76 : arr Try.prog 76 = none := by kernel_rfl
theorem apf_76 : apf Try.prog 76 = some (4, 32) := by kernel_rfl
theorem tyc_77 : tyc Try.prog 77 = some (true, 4) := by kernel_rfl
theorem zer_77 : zer Try.prog 77 = some [Go.Value.int Go.IntKind.i64 0, Go.Value.int Go.IntKind.i64 0, Go.Value.int Go.IntKind.i64 0, Go.Value.int Go.IntKind.i64 0] := by kernel_rfl
theorem zds_77 : zds Try.prog 77 = some [.v (Go.Value.int Go.IntKind.i64 0), .v (Go.Value.int Go.IntKind.i64 0), .v (Go.Value.int Go.IntKind.i64 0), .v (Go.Value.int Go.IntKind.i64 0)] := by kernel_rfl
theorem fld_77_0 : fld Try.prog 77 0 = some (0, 48) := by kernel_rfl
theorem fld_77_1 : fld Try.prog 77 1 = some (2, 48) := by kernel_rfl
theorem stf_77 : stf Try.prog 77 = some [(0, 2), (2, 2)] := by kernel_rfl
theorem arr_77 : arr Try.prog 77 = none := by kernel_rfl
theorem apf_77 : apf Try.prog 77 = some (4, 32) := by kernel_rfl
theorem tyc_78 : tyc Try.prog 78 = some (false, 1) := by kernel_rfl
theorem zer_78 : zer Try.prog 78 = some [Go.Value.slice none 0 0] := by kernel_rfl
theorem zds_78 : zds Try.prog 78 = some [.sl 4 []] := by kernel_rfl
theorem elt_78 : elt Try.prog 78 = some (77, 4) := by kernel_rfl
theorem apf_78 : apf Try.prog 78 = some (1, 24) := by kernel_rfl
theorem tyc_79 : tyc Try.prog 79 = some (true, 2) := by kernel_rfl
theorem zer_79 : zer Try.prog 79 = some [Go.Value.int Go.IntKind.i64 0, Go.Value.slice none 0 0] := by kernel_rfl
theorem zds_79 : zds Try.prog 79 = some [.v (Go.Value.int Go.IntKind.i64 0), .v (Go.Value.slice none 0 0)] := by kernel_rfl
theorem fld_79_0 : fld Try.prog 79 0 = some (0, 3) := by kernel_rfl
theorem fld_79_1 : fld Try.prog 79 1 = some (1, 78) := by kernel_rfl
theorem stf_79 : stf Try.prog 79 = some [(0, 1), (1, 1)] := by kernel_rfl
theorem arr_79 : arr Try.prog 79 = none := by kernel_rfl
theorem apf_79 : apf Try.prog 79 = some (2, 32) := by kernel_rfl
theorem tyc_80 : tyc Try.prog 80 = some (true, 2) := by kernel_rfl
theorem zer_80 : zer Try.prog 80 = some [Go.Value.int Go.IntKind.i64 0, Go.Value.slice none 0 0] := by kernel_rfl
theorem zds_80 : zds Try.prog 80 = some [.v (Go.Value.int Go.IntKind.i64 0), .v (Go.Value.slice none 0 0)] := by kernel_rfl
theorem fld_80_0 : fld Try.prog 80 0 = some (0, 3) := by kernel_rfl
theorem fld_80_1 : fld Try.prog 80 1 = some (1, 78) := by kernel_rfl
theorem stf_80 : stf Try.prog 80 = some [(0, 1), (1, 1)] := by kernel_rfl
theorem arr_80 : arr Try.prog 80 = none := by kernel_rfl
theorem apf_80 : apf Try.prog 80 = some (2, 32) := by kernel_rfl
theorem tyc_82 : tyc Try.prog 82 = some (false, 1) := by kernel_rfl
theorem zer_82 : zer Try.prog 82 = some [Go.Value.nilFunc] := by kernel_rfl
theorem tyc_83 : tyc Try.prog 83 = some (true, 4) := by kernel_rfl
theorem zer_83 : zer Try.prog 83 = some [Go.Value.slice none 0 0, Go.Value.int Go.IntKind.i64 0, Go.Value.int Go.IntKind.i64 0, Go.Value.int Go.IntKind.i64 0] := by kernel_rfl
theorem zds_83 : zds Try.prog 83 = some [.v (Go.Value.slice none 0 0), .v (Go.Value.int Go.IntKind.i64 0), .v (Go.Value.int Go.IntKind.i64 0), .v (Go.Value.int Go.IntKind.i64 0)] := by kernel_rfl
theorem fld_83_0 : fld Try.prog 83 0 = some (0, 39) := by kernel_rfl
theorem fld_83_1 : fld Try.prog 83 1 = some (1, 3) := by kernel_rfl
theorem fld_83_2 : fld Try.prog 83 2 = some (2, 3) := by kernel_rfl
theorem fld_83_3 : fld Try.prog 83 3 = some (3, 3) := by kernel_rfl
theorem stf_83 : stf Try.prog 83 = some [(0, 1), (1, 1), (2, 1), (3, 1)] := by kernel_rfl
theorem arr_83 : arr Try.prog 83 = none := by kernel_rfl
theorem apf_83 : apf Try.prog 83 = some (4, 48) := by kernel_rfl
theorem tyc_84 : tyc Try.prog 84 = some (true, 4) := by kernel_rfl
theorem zer_84 : zer Try.prog 84 = some [Go.Value.slice none 0 0, Go.Value.int Go.IntKind.i64 0, Go.Value.int Go.IntKind.i64 0, Go.Value.int Go.IntKind.i64 0] := by kernel_rfl
theorem zds_84 : zds Try.prog 84 = some [.v (Go.Value.slice none 0 0), .v (Go.Value.int Go.IntKind.i64 0), .v (Go.Value.int Go.IntKind.i64 0), .v (Go.Value.int Go.IntKind.i64 0)] := by kernel_rfl
theorem fld_84_0 : fld Try.prog 84 0 = some (0, 39) := by kernel_rfl
theorem fld_84_1 : fld Try.prog 84 1 = some (1, 3) := by kernel_rfl
theorem fld_84_2 : fld Try.prog 84 2 = some (2, 3) := by kernel_rfl
theorem fld_84_3 : fld Try.prog 84 3 = some (3, 3) := by kernel_rfl
theorem stf_84 : stf Try.prog 84 = some [(0, 1), (1, 1), (2, 1), (3, 1)] := by kernel_rfl
theorem arr_84 : arr Try.prog 84 = none := by kernel_rfl
theorem apf_84 : apf Try.prog 84 = some (4, 48) := by kernel_rfl
theorem tyc_85 : tyc Try.prog 85 = some (false, 1) := by kernel_rfl
theorem zer_85 : zer Try.prog 85 = some [Go.Value.nilFunc] := by kernel_rfl
theorem tyc_86 : tyc Try.prog 86 = some (false, 1) := by kernel_rfl
theorem zer_86 : zer Try.prog 86 = some [Go.Value.nilFunc] := by kernel_rfl
theorem tyc_87 : tyc Try.prog 87 = some (false, 1) := by kernel_rfl
theorem zer_87 : zer Try.prog 87 = some [Go.Value.nilFunc] := by kernel_rfl
theorem tyc_88 : tyc Try.prog 88 = some (false, 1) := by kernel_rfl
theorem zer_88 : zer Try.prog 88 = some [Go.Value.nilFunc] := by kernel_rfl
theorem tyc_89 : tyc Try.prog 89 = some (true, 4) := by kernel_rfl
theorem zer_89 : zer Try.prog 89 = some [Go.Value.int Go.IntKind.i64 0, Go.Value.int Go.IntKind.i64 0, Go.Value.int Go.IntKind.i64 0, Go.Value.int Go.IntKind.i64 0] := by kernel_rfl
theorem zds_89 : zds Try.prog 89 = some [.v (Go.Value.int Go.IntKind.i64 0), .v (Go.Value.int Go.IntKind.i64 0), .v (Go.Value.int Go.IntKind.i64 0), .v (Go.Value.int Go.IntKind.i64 0)] := by kernel_rfl
theorem fld_89_0 : fld Try.prog 89 0 = some (0, 48) := by kernel_rfl
theorem fld_89_1 : fld Try.prog 89 1 = some (2, 48) := by kernel_rfl
theorem stf_89 : stf Try.prog 89 = some [(0, 2), (2, 2)] := by kernel_rfl
theorem arr_89 : arr Try.prog 89 = none := by kernel_rfl
theorem apf_89 : apf Try.prog 89 = some (4, 32) := by kernel_rfl
theorem tyc_90 : tyc Try.prog 90 = some (true, 4) := by kernel_rfl
theorem zer_90 : zer Try.prog 90 = some [Go.Value.int Go.IntKind.i64 0, Go.Value.int Go.IntKind.i64 0, Go.Value.int Go.IntKind.i64 0, Go.Value.int Go.IntKind.i64 0] := by kernel_rfl
theorem zds_90 : zds Try.prog 90 = some [.v (Go.Value.int Go.IntKind.i64 0), .v (Go.Value.int Go.IntKind.i64 0), .v (Go.Value.int Go.IntKind.i64 0), .v (Go.Value.int Go.IntKind.i64 0)] := by kernel_rfl
theorem fld_90_0 : fld Try.prog 90 0 = some (0, 48) := by kernel_rfl
theorem fld_90_1 : fld Try.prog 90 1 = some (2, 48) := by kernel_rfl
theorem stf_90 : stf Try.prog 90 = some [(0, 2), (2, 2)] := by kernel_rfl
theorem arr_90 : arr Try.prog 90 = none := by kernel_rfl
theorem apf_90 : apf Try.prog 90 = some (4, 32) := by kernel_rfl
theorem tyc_91 : tyc Try.prog 91 = some (false, 1) := by kernel_rfl
theorem zer_91 : zer Try.prog 91 = some [Go.Value.map none] := by kernel_rfl
theorem zds_91 : zds Try.prog 91 = some [.v (Go.Value.map none)] := by kernel_rfl
theorem mpt_91 : mpt Try.prog 91 = some (.i64, 39) := by kernel_rfl
theorem apf_91 : apf Try.prog 91 = some (1, 8) := by kernel_rfl
theorem tyc_92 : tyc Try.prog 92 = some (false, 1) := by kernel_rfl
theorem zer_92 : zer Try.prog 92 = some [Go.Value.nilFunc] := by kernel_rfl
theorem tyc_93 : tyc Try.prog 93 = some (true, 2) := by kernel_rfl
theorem zer_93 : zer Try.prog 93 = some [Go.Value.int Go.IntKind.i64 0, Go.Value.int Go.IntKind.i64 0] := by kernel_rfl
theorem zds_93 : zds Try.prog 93 = some [.v (Go.Value.int Go.IntKind.i64 0), .v (Go.Value.int Go.IntKind.i64 0)] := by kernel_rfl
theorem fld_93_0 : fld Try.prog 93 0 = some (0, 3) := by kernel_rfl
theorem fld_93_1 : fld Try.prog 93 1 = some (1, 3) := by kernel_rfl
theorem stf_93 : stf Try.prog 93 = some [(0, 1), (1, 1)] := by kernel_rfl
theorem arr_93 : arr Try.prog 93 = none := by kernel_rfl
theorem apf_93 : apf Try.prog 93 = some (2, 16) := by kernel_rfl
theorem tyc_94 : tyc Try.prog 94 = some (true, 2) := by kernel_rfl
theorem zer_94 : zer Try.prog 94 = some [Go.Value.int Go.IntKind.i64 0, Go.Value.int Go.IntKind.i64 0] := by kernel_rfl
theorem zds_94 : zds Try.prog 94 = some [.v (Go.Value.int Go.IntKind.i64 0), .v (Go.Value.int Go.IntKind.i64 0)] := by kernel_rfl
theorem fld_94_0 : fld Try.prog 94 0 = some (0, 3) := by kernel_rfl
theorem fld_94_1 : fld Try.prog 94 1 = some (1, 3) := by kernel_rfl
theorem stf_94 : stf Try.prog 94 = some [(0, 1), (1, 1)] := by kernel_rfl
theorem arr_94 : arr Try.prog 94 = none := by kernel_rfl
theorem apf_94 : apf Try.prog 94 = some (2, 16) := by kernel_rfl
theorem tyc_95 : tyc Try.prog 95 = some (false, 1) := by kernel_rfl
theorem zer_95 : zer Try.prog 95 = some [Go.Value.nilFunc] := by kernel_rfl
theorem tyc_96 : tyc Try.prog 96 = some (false, 1) := by kernel_rfl
theorem zer_96 : zer Try.prog 96 = some [Go.Value.nilFunc] := by kernel_rfl
theorem tyc_97 : tyc Try.prog 97 = some (false, 1) := by kernel_rfl
theorem zer_97 : zer Try.prog 97 = some [Go.Value.nilFunc] := by kernel_rfl
theorem tyc_98 : tyc Try.prog 98 = some (true, 6) := by kernel_rfl
theorem zer_98 : zer Try.prog 98 = some [Go.Value.int Go.IntKind.i64 0, Go.Value.slice none 0 0, Go.Value.slice none 0 0, Go.Value.int Go.IntKind.i64 0, Go.Value.int Go.IntKind.i64 0, Go.Value.int Go.IntKind.i64 0] := by kernel_rfl
theorem zds_98 : zds Try.prog 98 = some [.v (Go.Value.int Go.IntKind.i64 0), .v (Go.Value.slice none 0 0), .v (Go.Value.slice none 0 0), .v (Go.Value.int Go.IntKind.i64 0), .v (Go.Value.int Go.IntKind.i64 0), .v (Go.Value.int Go.IntKind.i64 0)] := by kernel_rfl
theorem fld_98_0 : fld Try.prog 98 0 = some (0, 80) := by kernel_rfl
theorem fld_98_1 : fld Try.prog 98 1 = some (2, 84) := by kernel_rfl
theorem stf_98 : stf Try.prog 98 = some [(0, 2), (2, 4)] := by kernel_rfl
theorem arr_98 : arr Try.prog 98 = none := by kernel_rfl
theorem apf_98 : apf Try.prog 98 = some (6, 80) := by kernel_rfl
theorem tyc_99 : tyc Try.prog 99 = some (true, 6) := by kernel_rfl
theorem zer_99 : zer Try.prog 99 = some [Go.Value.int Go.IntKind.i64 0, Go.Value.slice none 0 0, Go.Value.slice none 0 0, Go.Value.int Go.IntKind.i64 0, Go.Value.int Go.IntKind.i64 0, Go.Value.int Go.IntKind.i64 0] := by kernel_rfl
theorem zds_99 : zds Try.prog 99 = some [.v (Go.Value.int Go.IntKind.i64 0), .v (Go.Value.slice none 0 0), .v (Go.Value.slice none 0 0), .v (Go.Value.int Go.IntKind.i64 0), .v (Go.Value.int Go.IntKind.i64 0), .v (Go.Value.int Go.IntKind.i64 0)] := by kernel_rfl
theorem fld_99_0 : fld Try.prog 99 0 = some (0, 80) := by kernel_rfl
theorem fld_99_1 : fld Try.prog 99 1 = some (2, 84) := by kernel_rfl
theorem stf_99 : stf Try.prog 99 = some [(0, 2), (2, 4)] := by kernel_rfl
theorem arr_99 : arr Try.prog 99 = none := by kernel_rfl
theorem apf_99 : apf Try.prog 99 = some (6, 80) := by kernel_rfl
theorem tyc_101 : tyc Try.prog 101 = some (false, 1) := by kernel_rfl
theorem zer_101 : zer Try.prog 101 = some [Go.Value.nilFunc] := by kernel_rfl
theorem tyc_102 : tyc Try.prog 102 = some (false, 1) := by kernel_rfl
theorem zer_102 : zer Try.prog 102 = some [Go.Value.nilFunc] := by kernel_rfl
theorem tyc_103 : tyc Try.prog 103 = some (false, 1) := by kernel_rfl
theorem zer_103 : zer Try.prog 103 = some [Go.Value.nilFunc] := by kernel_rfl
theorem tyc_104 : tyc Try.prog 104 = some (false, 1) := by kernel_rfl
theorem zer_104 : zer Try.prog 104 = some [Go.Value.nilFunc] := by kernel_rfl
theorem tyc_106 : tyc Try.prog 106 = some (false, 1) := by kernel_rfl
theorem zer_106 : zer Try.prog 106 = some [Go.Value.nilFunc] := by kernel_rfl
theorem tyc_108 : tyc Try.prog 108 = some (false, 1) := by kernel_rfl
theorem zer_108 : zer Try.prog 108 = some [Go.Value.nilFunc] := by kernel_rfl
theorem tyc_109 : tyc Try.prog 109 = some (false, 1) := by kernel_rfl
theorem zer_109 : zer Try.prog 109 = some [Go.Value.nilFunc] := by kernel_rfl
theorem tyc_110 : tyc Try.prog 110 = some (false, 1) := by kernel_rfl
theorem zer_110 : zer Try.prog 110 = some [Go.Value.nilFunc] := by kernel_rfl
theorem tyc_111 : tyc Try.prog 111 = some (false, 1) := by kernel_rfl
theorem zer_111 : zer Try.prog 111 = some [Go.Value.nilFunc] := by kernel_rfl
theorem tyc_112 : tyc Try.prog 112 = some (false, 1) := by kernel_rfl
theorem zer_112 : zer Try.prog 112 = some [Go.Value.nilFunc] := by kernel_rfl
theorem tyc_113 : tyc Try.prog 113 = some (false, 1) := by kernel_rfl
theorem zer_113 : zer Try.prog 113 = some [Go.Value.nilFunc] := by kernel_rfl
theorem tyc_114 : tyc Try.prog 114 = some (true, 2) := by kernel_rfl
theorem zer_114 : zer Try.prog 114 = some [Go.Value.int Go.IntKind.i64 0, Go.Value.int Go.IntKind.i64 0] := by kernel_rfl
theorem zds_114 : zds Try.prog 114 = some [.v (Go.Value.int Go.IntKind.i64 0), .v (Go.Value.int Go.IntKind.i64 0)] := by kernel_rfl
theorem fld_114_0 : fld Try.prog 114 0 = some (0, 3) := by kernel_rfl
theorem fld_114_1 : fld Try.prog 114 1 = some (1, 3) := by kernel_rfl
theorem stf_114 : stf Try.prog 114 = some [(0, 1), (1, 1)] := by kernel_rfl
theorem arr_114 : arr Try.prog 114 = none := by kernel_rfl
theorem apf_114 : apf Try.prog 114 = some (2, 16) := by kernel_rfl
theorem tyc_115 : tyc Try.prog 115 = some (true, 2) := by kernel_rfl
theorem zer_115 : zer Try.prog 115 = some [Go.Value.int Go.IntKind.i64 0, Go.Value.int Go.IntKind.i64 0] := by kernel_rfl
theorem zds_115 : zds Try.prog 115 = some [.v (Go.Value.int Go.IntKind.i64 0), .v (Go.Value.int Go.IntKind.i64 0)] := by kernel_rfl
theorem fld_115_0 : fld Try.prog 115 0 = some (0, 3) := by kernel_rfl
theorem fld_115_1 : fld Try.prog 115 1 = some (1, 3) := by kernel_rfl
theorem stf_115 : stf Try.prog 115 = some [(0, 1), (1, 1)] := by kernel_rfl
theorem arr_115 : arr Try.prog 115 = none := by kernel_rfl
theorem apf_115 : apf Try.prog 115 = some (2, 16) := by kernel_rfl
theorem tyc_116 : tyc Try.prog 116 = some (false, 1) := by kernel_rfl
theorem zer_116 : zer Try.prog 116 = some [Go.Value.nilFunc] := by kernel_rfl
theorem tyc_117 : tyc Try.prog 117 = some (false, 1) := by kernel_rfl
theorem zer_117 : zer Try.prog 117 = some [Go.Value.nilFunc] := by kernel_rfl
theorem tyc_118 : tyc Try.prog 118 = some (false, 1) := by kernel_rfl
theorem zer_118 : zer Try.prog 118 = some [Go.Value.nilFunc] := by kernel_rfl
theorem tyc_119 : tyc Try.prog 119 = some (false, 1) := by kernel_rfl
theorem zer_119 : zer Try.prog 119 = some [Go.Value.nilFunc] := by kernel_rfl
theorem tyc_120 : tyc Try.prog 120 = some (false, 1) := by kernel_rfl
theorem zer_120 : zer Try.prog 120 = some [Go.Value.nilFunc] := by kernel_rfl
theorem tyc_121 : tyc Try.prog 121 = some (false, 1) := by kernel_rfl
theorem zer_121 : zer Try.prog 121 = some [Go.Value.nilFunc] := by kernel_rfl
theorem tyc_122 : tyc Try.prog 122 = some (false, 1) := by kernel_rfl
theorem zer_122 : zer Try.prog 122 = some [Go.Value.nilFunc] := by kernel_rfl
theorem tyc_123 : tyc Try.prog 123 = some (false, 1) := by kernel_rfl
theorem zer_123 : zer Try.prog 123 = some [Go.Value.nilFunc] := by kernel_rfl
theorem tyc_124 : tyc Try.prog 124 = some (false, 1) := by kernel_rfl
theorem zer_124 : zer Try.prog 124 = some [Go.Value.nilFunc] := by kernel_rfl
theorem tyc_125 : tyc Try.prog 125 = some (false, 1) := by kernel_rfl
theorem zer_125 : zer Try.prog 125 = some [Go.Value.nilFunc] := by kernel_rfl
theorem tyc_126 : tyc Try.prog 126 = some (false, 1) := by kernel_rfl
theorem zer_126 : zer Try.prog 126 = some [Go.Value.nilFunc] := by kernel_rfl
theorem tyc_127 : tyc Try.prog 127 = some (false, 1) := by kernel_rfl
theorem zer_127 : zer Try.prog 127 = some [Go.Value.nilFunc] := by kernel_rfl
theorem tyc_128 : tyc Try.prog 128 = some (false, 1) := by kernel_rfl
theorem zer_128 : zer Try.prog 128 = some [Go.Value.nilFunc] := by kernel_rfl
theorem tyc_129 : tyc Try.prog 129 = some (false, 1) := by kernel_rfl
theorem zer_129 : zer Try.prog 129 = some [Go.Value.nilFunc] := by kernel_rfl
theorem tyc_130 : tyc Try.prog 130 = some (false, 1) := by kernel_rfl
theorem zer_130 : zer Try.prog 130 = some [Go.Value.nilFunc] := by kernel_rfl
theorem tyc_131 : tyc Try.prog 131 = some (true, 4) := by kernel_rfl
theorem zer_131 : zer Try.prog 131 = some [Go.Value.pointer none, Go.Value.pointer none, Go.Value.pointer none, Go.Value.string { data := #[] }] := by kernel_rfl
theorem zds_131 : zds Try.prog 131 = some [.v (Go.Value.pointer none), .v (Go.Value.pointer none), .v (Go.Value.pointer none), .v (Go.Value.string { data := #[] })] := by kernel_rfl
theorem fld_131_0 : fld Try.prog 131 0 = some (0, 17) := by kernel_rfl
theorem fld_131_1 : fld Try.prog 131 1 = some (1, 17) := by kernel_rfl
theorem fld_131_2 : fld Try.prog 131 2 = some (2, 17) := by kernel_rfl
theorem fld_131_3 : fld Try.prog 131 3 = some (3, 9) := by kernel_rfl
theorem stf_131 : stf Try.prog 131 = some [(0, 1), (1, 1), (2, 1), (3, 1)] := by kernel_rfl
theorem arr_131 : arr Try.prog 131 = none := by kernel_rfl
theorem apf_131 : apf Try.prog 131 = some (4, 40) := by kernel_rfl
theorem tyc_132 : tyc Try.prog 132 = some (true, 4) := by kernel_rfl
theorem zer_132 : zer Try.prog 132 = some [Go.Value.pointer none, Go.Value.pointer none, Go.Value.pointer none, Go.Value.string { data := #[] }] := by kernel_rfl
theorem zds_132 : zds Try.prog 132 = some [.v (Go.Value.pointer none), .v (Go.Value.pointer none), .v (Go.Value.pointer none), .v (Go.Value.string { data := #[] })] := by kernel_rfl
theorem fld_132_0 : fld Try.prog 132 0 = some (0, 17) := by kernel_rfl
theorem fld_132_1 : fld Try.prog 132 1 = some (1, 17) := by kernel_rfl
theorem fld_132_2 : fld Try.prog 132 2 = some (2, 17) := by kernel_rfl
theorem fld_132_3 : fld Try.prog 132 3 = some (3, 9) := by kernel_rfl
theorem stf_132 : stf Try.prog 132 = some [(0, 1), (1, 1), (2, 1), (3, 1)] := by kernel_rfl
theorem arr_132 : arr Try.prog 132 = none := by kernel_rfl
theorem apf_132 : apf Try.prog 132 = some (4, 40) := by kernel_rfl
theorem tyc_133 : tyc Try.prog 133 = some (true, 0) := by kernel_rfl
theorem zer_133 : zer Try.prog 133 = some [] := by kernel_rfl
theorem zds_133 : zds Try.prog 133 = some [] := by kernel_rfl
theorem arr_133 : arr Try.prog 133 = some (0, 16, 1) := by kernel_rfl
theorem stf_133 : stf Try.prog 133 = none := by kernel_rfl
theorem tyc_134 : tyc Try.prog 134 = some (true, 0) := by kernel_rfl
theorem zer_134 : zer Try.prog 134 = some [] := by kernel_rfl
theorem zds_134 : zds Try.prog 134 = some [] := by kernel_rfl
theorem stf_134 : stf Try.prog 134 = some [(0, 0)] := by kernel_rfl
theorem arr_134 : arr Try.prog 134 = none := by kernel_rfl
theorem tyc_135 : tyc Try.prog 135 = some (true, 0) := by kernel_rfl
theorem zer_135 : zer Try.prog 135 = some [] := by kernel_rfl
theorem zds_135 : zds Try.prog 135 = some [] := by kernel_rfl
theorem stf_135 : stf Try.prog 135 = some [(0, 0)] := by kernel_rfl
theorem arr_135 : arr Try.prog 135 = none := by kernel_rfl
theorem tyc_136 : tyc Try.prog 136 = some (false, 1) := by kernel_rfl
theorem zer_136 : zer Try.prog 136 = some [Go.Value.nilFunc] := by kernel_rfl
theorem tyc_137 : tyc Try.prog 137 = some (false, 1) := by kernel_rfl
theorem zer_137 : zer Try.prog 137 = some [Go.Value.int Go.IntKind.u32 0] := by kernel_rfl
theorem zds_137 : zds Try.prog 137 = some [.v (Go.Value.int Go.IntKind.u32 0)] := by kernel_rfl
theorem und_137 : Try.prog.underlying 137 = some (.int .u32) := by kernel_rfl
theorem apf_137 : apf Try.prog 137 = some (1, 4) := by kernel_rfl
theorem tyc_138 : tyc Try.prog 138 = some (false, 1) := by kernel_rfl
theorem zer_138 : zer Try.prog 138 = some [Go.Value.int Go.IntKind.u8 0] := by kernel_rfl
theorem zds_138 : zds Try.prog 138 = some [.v (Go.Value.int Go.IntKind.u8 0)] := by kernel_rfl
theorem und_138 : Try.prog.underlying 138 = some (.int .u8) := by kernel_rfl
theorem apf_138 : apf Try.prog 138 = some (1, 1) := by kernel_rfl
theorem tyc_139 : tyc Try.prog 139 = some (false, 1) := by kernel_rfl
theorem zer_139 : zer Try.prog 139 = some [Go.Value.int Go.IntKind.u8 0] := by kernel_rfl
theorem zds_139 : zds Try.prog 139 = some [.v (Go.Value.int Go.IntKind.u8 0)] := by kernel_rfl
theorem und_139 : Try.prog.underlying 139 = some (.int .u8) := by kernel_rfl
theorem apf_139 : apf Try.prog 139 = some (1, 1) := by kernel_rfl
theorem tyc_140 : tyc Try.prog 140 = some (false, 1) := by kernel_rfl
theorem zer_140 : zer Try.prog 140 = some [Go.Value.nilFunc] := by kernel_rfl
theorem tyc_141 : tyc Try.prog 141 = some (false, 1) := by kernel_rfl
theorem zer_141 : zer Try.prog 141 = some [Go.Value.pointer none] := by kernel_rfl
theorem zds_141 : zds Try.prog 141 = some [.v (Go.Value.pointer none)] := by kernel_rfl
theorem apf_141 : apf Try.prog 141 = some (1, 8) := by kernel_rfl
theorem tyc_142 : tyc Try.prog 142 = some (false, 1) := by kernel_rfl
theorem zer_142 : zer Try.prog 142 = some [Go.Value.int Go.IntKind.i32 0] := by kernel_rfl
theorem zds_142 : zds Try.prog 142 = some [.v (Go.Value.int Go.IntKind.i32 0)] := by kernel_rfl
theorem und_142 : Try.prog.underlying 142 = some (.int .i32) := by kernel_rfl
theorem apf_142 : apf Try.prog 142 = some (1, 4) := by kernel_rfl
theorem tyc_143 : tyc Try.prog 143 = some (false, 1) := by kernel_rfl
theorem zer_143 : zer Try.prog 143 = some [Go.Value.int Go.IntKind.i32 0] := by kernel_rfl
theorem zds_143 : zds Try.prog 143 = some [.v (Go.Value.int Go.IntKind.i32 0)] := by kernel_rfl
theorem und_143 : Try.prog.underlying 143 = some (.int .i32) := by kernel_rfl
theorem apf_143 : apf Try.prog 143 = some (1, 4) := by kernel_rfl
theorem tyc_144 : tyc Try.prog 144 = some (true, 11) := by kernel_rfl
theorem zer_144 : zer Try.prog 144 = some [Go.Value.int Go.IntKind.u64 0, Go.Value.int Go.IntKind.u64 0, Go.Value.int Go.IntKind.u32 0, Go.Value.int Go.IntKind.u8 0, Go.Value.int Go.IntKind.u8 0, Go.Value.int Go.IntKind.u8 0, Go.Value.int Go.IntKind.u8 0, Go.Value.nilFunc, Go.Value.pointer none, Go.Value.int Go.IntKind.i32 0, Go.Value.int Go.IntKind.i32 0] := by kernel_rfl
theorem zds_144 : zds Try.prog 144 = some [.v (Go.Value.int Go.IntKind.u64 0), .v (Go.Value.int Go.IntKind.u64 0), .v (Go.Value.int Go.IntKind.u32 0), .v (Go.Value.int Go.IntKind.u8 0), .v (Go.Value.int Go.IntKind.u8 0), .v (Go.Value.int Go.IntKind.u8 0), .v (Go.Value.int Go.IntKind.u8 0), .v (Go.Value.nilFunc), .v (Go.Value.pointer none), .v (Go.Value.int Go.IntKind.i32 0), .v (Go.Value.int Go.IntKind.i32 0)] := by kernel_rfl
theorem fld_144_0 : fld Try.prog 144 0 = some (0, 12) := by kernel_rfl
theorem fld_144_1 : fld Try.prog 144 1 = some (1, 12) := by kernel_rfl
theorem fld_144_2 : fld Try.prog 144 2 = some (2, 137) := by kernel_rfl
theorem fld_144_3 : fld Try.prog 144 3 = some (3, 138) := by kernel_rfl
theorem fld_144_4 : fld Try.prog 144 4 = some (4, 5) := by kernel_rfl
theorem fld_144_5 : fld Try.prog 144 5 = some (5, 5) := by kernel_rfl
theorem fld_144_6 : fld Try.prog 144 6 = some (6, 139) := by kernel_rfl
theorem fld_144_7 : fld Try.prog 144 7 = some (7, 140) := by kernel_rfl
theorem fld_144_8 : fld Try.prog 144 8 = some (8, 141) := by kernel_rfl
theorem fld_144_9 : fld Try.prog 144 9 = some (9, 142) := by kernel_rfl
theorem fld_144_10 : fld Try.prog 144 10 = some (10, 143) := by kernel_rfl
theorem stf_144 : stf Try.prog 144 = some [(0, 1), (1, 1), (2, 1), (3, 1), (4, 1), (5, 1), (6, 1), (7, 1), (8, 1), (9, 1), (10, 1)] := by kernel_rfl
theorem arr_144 : arr Try.prog 144 = none := by kernel_rfl
theorem apf_144 : apf Try.prog 144 = some (11, 48) := by kernel_rfl
theorem tyc_145 : tyc Try.prog 145 = some (true, 11) := by kernel_rfl
theorem zer_145 : zer Try.prog 145 = some [Go.Value.int Go.IntKind.u64 0, Go.Value.int Go.IntKind.u64 0, Go.Value.int Go.IntKind.u32 0, Go.Value.int Go.IntKind.u8 0, Go.Value.int Go.IntKind.u8 0, Go.Value.int Go.IntKind.u8 0, Go.Value.int Go.IntKind.u8 0, Go.Value.nilFunc, Go.Value.pointer none, Go.Value.int Go.IntKind.i32 0, Go.Value.int Go.IntKind.i32 0] := by kernel_rfl
theorem zds_145 : zds Try.prog 145 = some [.v (Go.Value.int Go.IntKind.u64 0), .v (Go.Value.int Go.IntKind.u64 0), .v (Go.Value.int Go.IntKind.u32 0), .v (Go.Value.int Go.IntKind.u8 0), .v (Go.Value.int Go.IntKind.u8 0), .v (Go.Value.int Go.IntKind.u8 0), .v (Go.Value.int Go.IntKind.u8 0), .v (Go.Value.nilFunc), .v (Go.Value.pointer none), .v (Go.Value.int Go.IntKind.i32 0), .v (Go.Value.int Go.IntKind.i32 0)] := by kernel_rfl
theorem fld_145_0 : fld Try.prog 145 0 = some (0, 12) := by kernel_rfl
theorem fld_145_1 : fld Try.prog 145 1 = some (1, 12) := by kernel_rfl
theorem fld_145_2 : fld Try.prog 145 2 = some (2, 137) := by kernel_rfl
theorem fld_145_3 : fld Try.prog 145 3 = some (3, 138) := by kernel_rfl
theorem fld_145_4 : fld Try.prog 145 4 = some (4, 5) := by kernel_rfl
theorem fld_145_5 : fld Try.prog 145 5 = some (5, 5) := by kernel_rfl
theorem fld_145_6 : fld Try.prog 145 6 = some (6, 139) := by kernel_rfl
theorem fld_145_7 : fld Try.prog 145 7 = some (7, 140) := by kernel_rfl
theorem fld_145_8 : fld Try.prog 145 8 = some (8, 141) := by kernel_rfl
theorem fld_145_9 : fld Try.prog 145 9 = some (9, 142) := by kernel_rfl
theorem fld_145_10 : fld Try.prog 145 10 = some (10, 143) := by kernel_rfl
theorem stf_145 : stf Try.prog 145 = some [(0, 1), (1, 1), (2, 1), (3, 1), (4, 1), (5, 1), (6, 1), (7, 1), (8, 1), (9, 1), (10, 1)] := by kernel_rfl
theorem arr_145 : arr Try.prog 145 = none := by kernel_rfl
theorem apf_145 : apf Try.prog 145 = some (11, 48) := by kernel_rfl
theorem zro_39 : zro Try.prog 39 = some (Go.Value.slice none 0 0) := by kernel_rfl
theorem fun_3 : Try.prog.funcs[3]? = some Try.f3 := by kernel_rfl
theorem fun_4 : Try.prog.funcs[4]? = some Try.f4 := by kernel_rfl
theorem fun_5 : Try.prog.funcs[5]? = some Try.f5 := by kernel_rfl
theorem fun_6 : Try.prog.funcs[6]? = some Try.f6 := by kernel_rfl
theorem fun_7 : Try.prog.funcs[7]? = some Try.f7 := by kernel_rfl
theorem fun_8 : Try.prog.funcs[8]? = some Try.f8 := by kernel_rfl
theorem fun_9 : Try.prog.funcs[9]? = some Try.f9 := by kernel_rfl
theorem fun_10 : Try.prog.funcs[10]? = some Try.f10 := by kernel_rfl
theorem fun_11 : Try.prog.funcs[11]? = some Try.f11 := by kernel_rfl
theorem fun_12 : Try.prog.funcs[12]? = some Try.f12 := by kernel_rfl
theorem fun_13 : Try.prog.funcs[13]? = some Try.f13 := by kernel_rfl
theorem fun_14 : Try.prog.funcs[14]? = some Try.f14 := by kernel_rfl
theorem fun_15 : Try.prog.funcs[15]? = some Try.f15 := by kernel_rfl
theorem fun_16 : Try.prog.funcs[16]? = some Try.f16 := by kernel_rfl
theorem fun_17 : Try.prog.funcs[17]? = some Try.f17 := by kernel_rfl
theorem fun_18 : Try.prog.funcs[18]? = some Try.f18 := by kernel_rfl
theorem fun_19 : Try.prog.funcs[19]? = some Try.f19 := by kernel_rfl
theorem fun_20 : Try.prog.funcs[20]? = some Try.f20 := by kernel_rfl
theorem fun_21 : Try.prog.funcs[21]? = some Try.f21 := by kernel_rfl
theorem fun_22 : Try.prog.funcs[22]? = some Try.f22 := by kernel_rfl
theorem fun_23 : Try.prog.funcs[23]? = some Try.f23 := by kernel_rfl
theorem fun_24 : Try.prog.funcs[24]? = some Try.f24 := by kernel_rfl
theorem fun_25 : Try.prog.funcs[25]? = some Try.f25 := by kernel_rfl
theorem fun_26 : Try.prog.funcs[26]? = some Try.f26 := by kernel_rfl
theorem fun_27 : Try.prog.funcs[27]? = some Try.f27 := by kernel_rfl
theorem fun_28 : Try.prog.funcs[28]? = some Try.f28 := by kernel_rfl
theorem fun_29 : Try.prog.funcs[29]? = some Try.f29 := by kernel_rfl
theorem fun_30 : Try.prog.funcs[30]? = some Try.f30 := by kernel_rfl
theorem fun_31 : Try.prog.funcs[31]? = some Try.f31 := by kernel_rfl
theorem fun_32 : Try.prog.funcs[32]? = some Try.f32 := by kernel_rfl
theorem fun_33 : Try.prog.funcs[33]? = some Try.f33 := by kernel_rfl
theorem fun_34 : Try.prog.funcs[34]? = some Try.f34 := by kernel_rfl
theorem fun_35 : Try.prog.funcs[35]? = some Try.f35 := by kernel_rfl
theorem fun_36 : Try.prog.funcs[36]? = some Try.f36 := by kernel_rfl
theorem fun_37 : Try.prog.funcs[37]? = some Try.f37 := by kernel_rfl
theorem fun_38 : Try.prog.funcs[38]? = some Try.f38 := by kernel_rfl
theorem fun_39 : Try.prog.funcs[39]? = some Try.f39 := by kernel_rfl
theorem fun_40 : Try.prog.funcs[40]? = some Try.f40 := by kernel_rfl
theorem fun_41 : Try.prog.funcs[41]? = some Try.f41 := by kernel_rfl
theorem fun_42 : Try.prog.funcs[42]? = some Try.f42 := by kernel_rfl
theorem fun_43 : Try.prog.funcs[43]? = some Try.f43 := by kernel_rfl
theorem fun_44 : Try.prog.funcs[44]? = some Try.f44 := by kernel_rfl
theorem fun_45 : Try.prog.funcs[45]? = some Try.f45 := by kernel_rfl
theorem fun_46 : Try.prog.funcs[46]? = some Try.f46 := by kernel_rfl
theorem fun_47 : Try.prog.funcs[47]? = some Try.f47 := by kernel_rfl
theorem fun_48 : Try.prog.funcs[48]? = some Try.f48 := by kernel_rfl
theorem fun_49 : Try.prog.funcs[49]? = some Try.f49 := by kernel_rfl
theorem fun_50 : Try.prog.funcs[50]? = some Try.f50 := by kernel_rfl
theorem fun_51 : Try.prog.funcs[51]? = some Try.f51 := by kernel_rfl
theorem fun_52 : Try.prog.funcs[52]? = some Try.f52 := by kernel_rfl
theorem fun_53 : Try.prog.funcs[53]? = some Try.f53 := by kernel_rfl
theorem fun_54 : Try.prog.funcs[54]? = some Try.f54 := by kernel_rfl
theorem fun_55 : Try.prog.funcs[55]? = some Try.f55 := by kernel_rfl
theorem fun_56 : Try.prog.funcs[56]? = some Try.f56 := by kernel_rfl
theorem fun_57 : Try.prog.funcs[57]? = some Try.f57 := by kernel_rfl
theorem fun_58 : Try.prog.funcs[58]? = some Try.f58 := by kernel_rfl
theorem fun_59 : Try.prog.funcs[59]? = some Try.f59 := by kernel_rfl
theorem fun_60 : Try.prog.funcs[60]? = some Try.f60 := by kernel_rfl
theorem fun_61 : Try.prog.funcs[61]? = some Try.f61 := by kernel_rfl
theorem fun_62 : Try.prog.funcs[62]? = some Try.f62 := by kernel_rfl
theorem fun_63 : Try.prog.funcs[63]? = some Try.f63 := by kernel_rfl
theorem fun_64 : Try.prog.funcs[64]? = some Try.f64 := by kernel_rfl
theorem fun_65 : Try.prog.funcs[65]? = some Try.f65 := by kernel_rfl
theorem fun_66 : Try.prog.funcs[66]? = some Try.f66 := by kernel_rfl
theorem fun_67 : Try.prog.funcs[67]? = some Try.f67 := by kernel_rfl
def fA0 := (And.intro (And.intro (And.intro (And.intro (And.intro (And.intro (And.intro (And.intro (And.intro @tyc_1 @zer_1) (And.intro @tyc_2 (And.intro @zer_2 @zds_2))) (And.intro (And.intro @und_2 @apf_2) (And.intro @tyc_3 (And.intro @zer_3 @zds_3)))) (And.intro (And.intro (And.intro @und_3 @apf_3) (And.intro @tyc_4 (And.intro @zer_4 @zds_4))) (And.intro (And.intro @und_4 @apf_4) (And.intro @tyc_5 (And.intro @zer_5 @zds_5))))) (And.intro (And.intro (And.intro (And.intro @und_5 @apf_5) (And.intro @tyc_6 (And.intro @zer_6 @zds_6))) (And.intro (And.intro @und_6 @apf_6) (And.intro @tyc_7 (And.intro @zer_7 @zds_7)))) (And.intro (And.intro (And.intro @fld_7_0 @fld_7_1) (And.intro @fld_7_2 (And.intro @fld_7_3 @stf_7))) (And.intro (And.intro @arr_7 (And.intro @apf_7 @tyc_8)) (And.intro @zer_8 (And.intro @zds_8 @fld_8_0)))))) (And.intro (And.intro (And.intro (And.intro (And.intro @fld_8_1 @fld_8_2) (And.intro @fld_8_3 (And.intro @stf_8 @arr_8))) (And.intro (And.intro @apf_8 @tyc_9) (And.intro @zer_9 (And.intro @zds_9 @apf_9)))) (And.intro (And.intro (And.intro @tyc_10 @zer_10) (And.intro @zds_10 (And.intro @apf_10 @tyc_11))) (And.intro (And.intro @zer_11 @zds_11) (And.intro @apf_11 (And.intro @tyc_12 @zer_12))))) (And.intro (And.intro (And.intro (And.intro @zds_12 @und_12) (And.intro @apf_12 (And.intro @tyc_13 @zer_13))) (And.intro (And.intro @zds_13 @fld_13_0) (And.intro @fld_13_1 (And.intro @stf_13 @arr_13)))) (And.intro (And.intro (And.intro @apf_13 @tyc_14) (And.intro @zer_14 (And.intro @zds_14 @fld_14_0))) (And.intro (And.intro @fld_14_1 (And.intro @stf_14 @arr_14)) (And.intro @apf_14 (And.intro @tyc_15 @zer_15))))))) (And.intro (And.intro (And.intro (And.intro (And.intro (And.intro @zds_15 @apf_15) (And.intro @tyc_16 (And.intro @zer_16 @zds_16))) (And.intro (And.intro @apf_16 @tyc_17) (And.intro @zer_17 (And.intro @zds_17 @apf_17)))) (And.intro (And.intro (And.intro @tyc_18 @zer_18) (And.intro @zds_18 (And.intro @fld_18_0 @stf_18))) (And.intro (And.intro @arr_18 @apf_18) (And.intro @tyc_19 (And.intro @zer_19 @zds_19))))) (And.intro (And.intro (And.intro (And.intro @fld_19_0 @stf_19) (And.intro @arr_19 (And.intro @apf_19 @tyc_21))) (And.intro (And.intro @zer_21 @zds_21) (And.intro @und_21 (And.intro @apf_21 @tyc_22)))) (And.intro (And.intro (And.intro @zer_22 @zds_22) (And.intro @elt_22 (And.intro @apf_22 @tyc_23))) (And.intro (And.intro @zer_23 (And.intro @zds_23 @arr_23)) (And.intro @stf_23 (And.intro @apf_23 @tyc_24)))))) (And.intro (And.intro (And.intro (And.intro (And.intro @zer_24 @zds_24) (And.intro @arr_24 (And.intro @stf_24 @apf_24))) (And.intro (And.intro @tyc_25 @zer_25) (And.intro @zds_25 (And.intro @fld_25_0 @fld_25_1)))) (And.intro (And.intro (And.intro @fld_25_2 @fld_25_3) (And.intro @stf_25 (And.intro @arr_25 @apf_25))) (And.intro (And.intro @tyc_26 @zer_26) (And.intro @zds_26 (And.intro @fld_26_0 @fld_26_1))))) (And.intro (And.intro (And.intro (And.intro @fld_26_2 @fld_26_3) (And.intro @stf_26 (And.intro @arr_26 @apf_26))) (And.intro (And.intro @tyc_27 @zer_27) (And.intro @zds_27 (And.intro @elt_27 @apf_27)))) (And.intro (And.intro (And.intro @tyc_28 @zer_28) (And.intro @zds_28 (And.intro @und_28 @apf_28))) (And.intro (And.intro @tyc_30 (And.intro @zer_30 @tyc_31)) (And.intro @zer_31 (And.intro @zds_31 @elt_31)))))))) (And.intro (And.intro (And.intro (And.intro (And.intro (And.intro (And.intro @apf_31 @tyc_32) (And.intro @zer_32 (And.intro @zds_32 @elt_32))) (And.intro (And.intro @apf_32 @tyc_33) (And.intro @zer_33 (And.intro @zds_33 @fld_33_0)))) (And.intro (And.intro (And.intro @fld_33_1 @fld_33_2) (And.intro @fld_33_3 (And.intro @stf_33 @arr_33))) (And.intro (And.intro @apf_33 @tyc_34) (And.intro @zer_34 (And.intro @zds_34 @fld_34_0))))) (And.intro (And.intro (And.intro (And.intro @fld_34_1 @fld_34_2) (And.intro @fld_34_3 (And.intro @stf_34 @arr_34))) (And.intro (And.intro @apf_34 @tyc_35) (And.intro @zer_35 (And.intro @tyc_36 @zer_36)))) (And.intro (And.intro (And.intro @zds_36 @fld_36_0) (And.intro @fld_36_1 (And.intro @fld_36_2 @fld_36_3))) (And.intro (And.intro @stf_36 (And.intro @arr_36 @apf_36)) (And.intro @tyc_37 (And.intro @zer_37 @zds_37)))))) (And.intro (And.intro (And.intro (And.intro (And.intro @fld_37_0 @fld_37_1) (And.intro @fld_37_2 (And.intro @fld_37_3 @stf_37))) (And.intro (And.intro @arr_37 @apf_37) (And.intro @tyc_38 (And.intro @zer_38 @tyc_39)))) (And.intro (And.intro (And.intro @zer_39 @zds_39) (And.intro @elt_39 (And.intro @apf_39 @tyc_41))) (And.intro (And.intro @zer_41 @tyc_43) (And.intro @zer_43 (And.intro @tyc_44 @zer_44))))) (And.intro (And.intro (And.intro (And.intro @zds_44 @fld_44_0) (And.intro @fld_44_1 (And.intro @stf_44 @arr_44))) (And.intro (And.intro @apf_44 @tyc_45) (And.intro @zer_45 (And.intro @zds_45 @fld_45_0)))) (And.intro (And.intro (And.intro @fld_45_1 @stf_45) (And.intro @arr_45 (And.intro @apf_45 @tyc_46))) (And.intro (And.intro @zer_46 (And.intro @tyc_47 @zer_47)) (And.intro @zds_47 (And.intro @fld_47_0 @fld_47_1))))))) (And.intro (And.intro (And.intro (And.intro (And.intro (And.intro @stf_47 @arr_47) (And.intro @apf_47 (And.intro @tyc_48 @zer_48))) (And.intro (And.intro @zds_48 @fld_48_0) (And.intro @fld_48_1 (And.intro @stf_48 @arr_48)))) (And.intro (And.intro (And.intro @apf_48 @tyc_50) (And.intro @zer_50 (And.intro @tyc_51 @zer_51))) (And.intro (And.intro @tyc_52 @zer_52) (And.intro @tyc_53 (And.intro @zer_53 @zds_53))))) (And.intro (And.intro (And.intro (And.intro @fld_53_0 @fld_53_1) (And.intro @fld_53_2 (And.intro @stf_53 @arr_53))) (And.intro (And.intro @apf_53 @tyc_54) (And.intro @zer_54 (And.intro @zds_54 @fld_54_0)))) (And.intro (And.intro (And.intro @fld_54_1 @fld_54_2) (And.intro @stf_54 (And.intro @arr_54 @apf_54))) (And.intro (And.intro @tyc_56 (And.intro @zer_56 @tyc_57)) (And.intro @zer_57 (And.intro @zds_57 @elt_57)))))) (And.intro (And.intro (And.intro (And.intro (And.intro @apf_57 @tyc_58) (And.intro @zer_58 (And.intro @zds_58 @fld_58_0))) (And.intro (And.intro @fld_58_1 @fld_58_2) (And.intro @stf_58 (And.intro @arr_58 @apf_58)))) (And.intro (And.intro (And.intro @tyc_59 @zer_59) (And.intro @zds_59 (And.intro @fld_59_0 @fld_59_1))) (And.intro (And.intro @fld_59_2 (And.intro @stf_59 @arr_59)) (And.intro @apf_59 (And.intro @tyc_60 @zer_60))))) (And.intro (And.intro (And.intro (And.intro @tyc_61 @zer_61) (And.intro @tyc_62 (And.intro @zer_62 @tyc_63))) (And.intro (And.intro @zer_63 @zds_63) (And.intro @fld_63_0 (And.intro @fld_63_1 @fld_63_2)))) (And.intro (And.intro (And.intro @stf_63 @arr_63) (And.intro @apf_63 (And.intro @tyc_64 @zer_64))) (And.intro (And.intro @zds_64 (And.intro @fld_64_0 @fld_64_1)) (And.intro @fld_64_2 (And.intro @stf_64 @arr_64))))))))) (And.intro (And.intro (And.intro (And.intro (And.intro (And.intro (And.intro (And.intro @apf_64 @tyc_65) (And.intro @zer_65 (And.intro @tyc_66 @zer_66))) (And.intro (And.intro @tyc_67 @zer_67) (And.intro @tyc_68 (And.intro @zer_68 @tyc_69)))) (And.intro (And.intro (And.intro @zer_69 @tyc_70) (And.intro @zer_70 (And.intro @zds_70 @fld_70_0))) (And.intro (And.intro @stf_70 @arr_70) (And.intro @apf_70 (And.intro @tyc_71 @zer_71))))) (And.intro (And.intro (And.intro (And.intro @zds_71 @fld_71_0) (And.intro @stf_71 (And.intro @arr_71 @apf_71))) (And.intro (And.intro @tyc_72 @zer_72) (And.intro @tyc_73 (And.intro @zer_73 @tyc_75)))) (And.intro (And.intro (And.intro @zer_75 @tyc_76) (And.intro @zer_76 (And.intro @zds_76 @fld_76_0))) (And.intro (And.intro @fld_76_1 (And.intro @stf_76 @arr_76)) (And.intro @apf_76 (And.intro @tyc_77 @zer_77)))))) (And.intro (And.intro (And.intro (And.intro (And.intro @zds_77 @fld_77_0) (And.intro @fld_77_1 (And.intro @stf_77 @arr_77))) (And.intro (And.intro @apf_77 @tyc_78) (And.intro @zer_78 (And.intro @zds_78 @elt_78)))) (And.intro (And.intro (And.intro @apf_78 @tyc_79) (And.intro @zer_79 (And.intro @zds_79 @fld_79_0))) (And.intro (And.intro @fld_79_1 @stf_79) (And.intro @arr_79 (And.intro @apf_79 @tyc_80))))) (And.intro (And.intro (And.intro (And.intro @zer_80 @zds_80) (And.intro @fld_80_0 (And.intro @fld_80_1 @stf_80))) (And.intro (And.intro @arr_80 @apf_80) (And.intro @tyc_82 (And.intro @zer_82 @tyc_83)))) (And.intro (And.intro (And.intro @zer_83 @zds_83) (And.intro @fld_83_0 (And.intro @fld_83_1 @fld_83_2))) (And.intro (And.intro @fld_83_3 (And.intro @stf_83 @arr_83)) (And.intro @apf_83 (And.intro @tyc_84 @zer_84))))))) (And.intro (And.intro (And.intro (And.intro (And.intro (And.intro @zds_84 @fld_84_0) (And.intro @fld_84_1 (And.intro @fld_84_2 @fld_84_3))) (And.intro (And.intro @stf_84 @arr_84) (And.intro @apf_84 (And.intro @tyc_85 @zer_85)))) (And.intro (And.intro (And.intro @tyc_86 @zer_86) (And.intro @tyc_87 (And.intro @zer_87 @tyc_88))) (And.intro (And.intro @zer_88 @tyc_89) (And.intro @zer_89 (And.intro @zds_89 @fld_89_0))))) (And.intro (And.intro (And.intro (And.intro @fld_89_1 @stf_89) (And.intro @arr_89 (And.intro @apf_89 @tyc_90))) (And.intro (And.intro @zer_90 @zds_90) (And.intro @fld_90_0 (And.intro @fld_90_1 @stf_90)))) (And.intro (And.intro (And.intro @arr_90 @apf_90) (And.intro @tyc_91 (And.intro @zer_91 @zds_91))) (And.intro (And.intro @mpt_91 (And.intro @apf_91 @tyc_92)) (And.intro @zer_92 (And.intro @tyc_93 @zer_93)))))) (And.intro (And.intro (And.intro (And.intro (And.intro @zds_93 @fld_93_0) (And.intro @fld_93_1 (And.intro @stf_93 @arr_93))) (And.intro (And.intro @apf_93 @tyc_94) (And.intro @zer_94 (And.intro @zds_94 @fld_94_0)))) (And.intro (And.intro (And.intro @fld_94_1 @stf_94) (And.intro @arr_94 (And.intro @apf_94 @tyc_95))) (And.intro (And.intro @zer_95 (And.intro @tyc_96 @zer_96)) (And.intro @tyc_97 (And.intro @zer_97 @tyc_98))))) (And.intro (And.intro (And.intro (And.intro @zer_98 @zds_98) (And.intro @fld_98_0 (And.intro @fld_98_1 @stf_98))) (And.intro (And.intro @arr_98 @apf_98) (And.intro @tyc_99 (And.intro @zer_99 @zds_99)))) (And.intro (And.intro (And.intro @fld_99_0 @fld_99_1) (And.intro @stf_99 (And.intro @arr_99 @apf_99))) (And.intro (And.intro @tyc_101 (And.intro @zer_101 @tyc_102)) (And.intro @zer_102 (And.intro @tyc_103 @zer_103)))))))) (And.intro (And.intro (And.intro (And.intro (And.intro (And.intro (And.intro @tyc_104 @zer_104) (And.intro @tyc_106 (And.intro @zer_106 @tyc_108))) (And.intro (And.intro @zer_108 @tyc_109) (And.intro @zer_109 (And.intro @tyc_110 @zer_110)))) (And.intro (And.intro (And.intro @tyc_111 @zer_111) (And.intro @tyc_112 (And.intro @zer_112 @tyc_113))) (And.intro (And.intro @zer_113 @tyc_114) (And.intro @zer_114 (And.intro @zds_114 @fld_114_0))))) (And.intro (And.intro (And.intro (And.intro @fld_114_1 @stf_114) (And.intro @arr_114 (And.intro @apf_114 @tyc_115))) (And.intro (And.intro @zer_115 @zds_115) (And.intro @fld_115_0 (And.intro @fld_115_1 @stf_115)))) (And.intro (And.intro (And.intro @arr_115 @apf_115) (And.intro @tyc_116 (And.intro @zer_116 @tyc_117))) (And.intro (And.intro @zer_117 (And.intro @tyc_118 @zer_118)) (And.intro @tyc_119 (And.intro @zer_119 @tyc_120)))))) (And.intro (And.intro (And.intro (And.intro (And.intro @zer_120 @tyc_121) (And.intro @zer_121 (And.intro @tyc_122 @zer_122))) (And.intro (And.intro @tyc_123 @zer_123) (And.intro @tyc_124 (And.intro @zer_124 @tyc_125)))) (And.intro (And.intro (And.intro @zer_125 @tyc_126) (And.intro @zer_126 (And.intro @tyc_127 @zer_127))) (And.intro (And.intro @tyc_128 @zer_128) (And.intro @tyc_129 (And.intro @zer_129 @tyc_130))))) (And.intro (And.intro (And.intro (And.intro @zer_130 @tyc_131) (And.intro @zer_131 (And.intro @zds_131 @fld_131_0))) (And.intro (And.intro @fld_131_1 @fld_131_2) (And.intro @fld_131_3 (And.intro @stf_131 @arr_131)))) (And.intro (And.intro (And.intro @apf_131 @tyc_132) (And.intro @zer_132 (And.intro @zds_132 @fld_132_0))) (And.intro (And.intro @fld_132_1 (And.intro @fld_132_2 @fld_132_3)) (And.intro @stf_132 (And.intro @arr_132 @apf_132))))))) (And.intro (And.intro (And.intro (And.intro (And.intro (And.intro @tyc_133 @zer_133) (And.intro @zds_133 (And.intro @arr_133 @stf_133))) (And.intro (And.intro @tyc_134 @zer_134) (And.intro @zds_134 (And.intro @stf_134 @arr_134)))) (And.intro (And.intro (And.intro @tyc_135 @zer_135) (And.intro @zds_135 (And.intro @stf_135 @arr_135))) (And.intro (And.intro @tyc_136 @zer_136) (And.intro @tyc_137 (And.intro @zer_137 @zds_137))))) (And.intro (And.intro (And.intro (And.intro @und_137 @apf_137) (And.intro @tyc_138 (And.intro @zer_138 @zds_138))) (And.intro (And.intro @und_138 @apf_138) (And.intro @tyc_139 (And.intro @zer_139 @zds_139)))) (And.intro (And.intro (And.intro @und_139 @apf_139) (And.intro @tyc_140 (And.intro @zer_140 @tyc_141))) (And.intro (And.intro @zer_141 (And.intro @zds_141 @apf_141)) (And.intro @tyc_142 (And.intro @zer_142 @zds_142)))))) (And.intro (And.intro (And.intro (And.intro (And.intro @und_142 @apf_142) (And.intro @tyc_143 (And.intro @zer_143 @zds_143))) (And.intro (And.intro @und_143 @apf_143) (And.intro @tyc_144 (And.intro @zer_144 @zds_144)))) (And.intro (And.intro (And.intro @fld_144_0 @fld_144_1) (And.intro @fld_144_2 (And.intro @fld_144_3 @fld_144_4))) (And.intro (And.intro @fld_144_5 (And.intro @fld_144_6 @fld_144_7)) (And.intro @fld_144_8 (And.intro @fld_144_9 @fld_144_10))))) (And.intro (And.intro (And.intro (And.intro @stf_144 @arr_144) (And.intro @apf_144 (And.intro @tyc_145 @zer_145))) (And.intro (And.intro @zds_145 @fld_145_0) (And.intro @fld_145_1 (And.intro @fld_145_2 @fld_145_3)))) (And.intro (And.intro (And.intro @fld_145_4 @fld_145_5) (And.intro @fld_145_6 (And.intro @fld_145_7 @fld_145_8))) (And.intro (And.intro @fld_145_9 (And.intro @fld_145_10 @stf_145)) (And.intro @arr_145 (And.intro @apf_145 @zro_39))))))))))
theorem fA : type_of% fA0 := fA0
end Go.Proofs.Ytdgeocjchnandaa.Ab
