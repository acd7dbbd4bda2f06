/- Facts of the seat: its types and its functions, by number. -/
import Derived.Test.YtmkholodkejomaaZAbV
import Derived.Test.YtmkholodkejomaaProg
import Derived.KernelRfl
namespace Go.Proofs.Ytmkholodkejomaa.Ab
open Go Go.RowKit
set_option linter.defProp false
theorem tyc_1 : tyc Try.prog 1 = some (false, 1) := by kernel_rfl
theorem zer_1 : zer Try.prog 1 = some [Go.Value.nilFunc] := by kernel_rfl
theorem tyc_2 : tyc Try.prog 2 = some (false, 1) := by kernel_rfl
theorem zer_2 : zer Try.prog 2 = some [Go.Value.int Go.IntKind.i64 0] := by kernel_rfl
theorem zds_2 : zds Try.prog 2 = some [.v (Go.Value.int Go.IntKind.i64 0)] := by kernel_rfl
theorem und_2 : Try.prog.underlying 2 = some (.int .i64) := by kernel_rfl
theorem apf_2 : apf Try.prog 2 = some (1, 8) := by kernel_rfl
theorem tyc_3 : tyc Try.prog 3 = some (false, 1) := by kernel_rfl
theorem zer_3 : zer Try.prog 3 = some [Go.Value.int Go.IntKind.i64 0] := by kernel_rfl
theorem zds_3 : zds Try.prog 3 = some [.v (Go.Value.int Go.IntKind.i64 0)] := by kernel_rfl
theorem und_3 : Try.prog.underlying 3 = some (.int .i64) := by kernel_rfl
theorem apf_3 : apf Try.prog 3 = some (1, 8) := by kernel_rfl
theorem tyc_4 : tyc Try.prog 4 = some (false, 1) := by kernel_rfl
theorem zer_4 : zer Try.prog 4 = some [Go.Value.bool false] := by kernel_rfl
theorem zds_4 : zds Try.prog 4 = some [.v (Go.Value.bool false)] := by kernel_rfl
theorem und_4 : Try.prog.underlying 4 = some .bool := by kernel_rfl
theorem apf_4 : apf Try.prog 4 = some (1, 1) := by kernel_rfl
theorem tyc_5 : tyc Try.prog 5 = some (false, 1) := by kernel_rfl
theorem zer_5 : zer Try.prog 5 = some [Go.Value.int Go.IntKind.u8 0] := by kernel_rfl
theorem zds_5 : zds Try.prog 5 = some [.v (Go.Value.int Go.IntKind.u8 0)] := by kernel_rfl
theorem und_5 : Try.prog.underlying 5 = some (.int .u8) := by kernel_rfl
theorem apf_5 : apf Try.prog 5 = some (1, 1) := by kernel_rfl
theorem tyc_6 : tyc Try.prog 6 = some (false, 1) := by kernel_rfl
theorem zer_6 : zer Try.prog 6 = some [Go.Value.int Go.IntKind.u8 0] := by kernel_rfl
theorem zds_6 : zds Try.prog 6 = some [.v (Go.Value.int Go.IntKind.u8 0)] := by kernel_rfl
theorem und_6 : Try.prog.underlying 6 = some (.int .u8) := by kernel_rfl
theorem apf_6 : apf Try.prog 6 = some (1, 1) := by kernel_rfl
theorem tyc_7 : tyc Try.prog 7 = some (true, 4) := by kernel_rfl
theorem zer_7 : zer Try.prog 7 = some [Go.Value.int Go.IntKind.i64 0, Go.Value.int Go.IntKind.i64 0, Go.Value.bool false, Go.Value.int Go.IntKind.u8 0] := by kernel_rfl
theorem zds_7 : zds Try.prog 7 = some [.v (Go.Value.int Go.IntKind.i64 0), .v (Go.Value.int Go.IntKind.i64 0), .v (Go.Value.bool false), .v (Go.Value.int Go.IntKind.u8 0)] := by kernel_rfl
theorem fld_7_0 : fld Try.prog 7 0 = some (0, 2) := by kernel_rfl
theorem fld_7_1 : fld Try.prog 7 1 = some (1, 3) := by kernel_rfl
theorem fld_7_2 : fld Try.prog 7 2 = some (2, 4) := by kernel_rfl
theorem fld_7_3 : fld Try.prog 7 3 = some (3, 6) := by kernel_rfl
theorem stf_7 : stf Try.prog 7 = some [(0, 1), (1, 1), (2, 1), (3, 1)] := by kernel_rfl
theorem arr_7 : arr Try.prog 7 = none := by kernel_rfl
theorem apf_7 : apf Try.prog 7 = some (4, 24) := by kernel_rfl
theorem tyc_8 : tyc Try.prog 8 = some (true, 4) := by kernel_rfl
theorem zer_8 : zer Try.prog 8 = some [Go.Value.int Go.IntKind.i64 0, Go.Value.int Go.IntKind.i64 0, Go.Value.bool false, Go.Value.int Go.IntKind.u8 0] := by kernel_rfl
theorem zds_8 : zds Try.prog 8 = some [.v (Go.Value.int Go.IntKind.i64 0), .v (Go.Value.int Go.IntKind.i64 0), .v (Go.Value.bool false), .v (Go.Value.int Go.IntKind.u8 0)] := by kernel_rfl
theorem fld_8_0 : fld Try.prog 8 0 = some (0, 2) := by kernel_rfl
theorem fld_8_1 : fld Try.prog 8 1 = some (1, 3) := by kernel_rfl
theorem fld_8_2 : fld Try.prog 8 2 = some (2, 4) := by kernel_rfl
theorem fld_8_3 : fld Try.prog 8 3 = some (3, 6) := by kernel_rfl
theorem stf_8 : stf Try.prog 8 = some [(0, 1), (1, 1), (2, 1), (3, 1)] := by kernel_rfl
theorem arr_8 : arr Try.prog 8 = none := by kernel_rfl
theorem apf_8 : apf Try.prog 8 = some (4, 24) := by kernel_rfl
theorem tyc_9 : tyc Try.prog 9 = some (false, 1) := by kernel_rfl
theorem zer_9 : zer Try.prog 9 = some [Go.Value.string { data := #[] }] := by kernel_rfl
theorem zds_9 : zds Try.prog 9 = some [.v (Go.Value.string { data := #[] })] := by kernel_rfl
theorem apf_9 : apf Try.prog 9 = some (1, 16) := by kernel_rfl
theorem tyc_10 : tyc Try.prog 10 = some (false, 1) := by kernel_rfl
theorem zer_10 : zer Try.prog 10 = some [Go.Value.string { data := #[] }] := by kernel_rfl
theorem zds_10 : zds Try.prog 10 = some [.v (Go.Value.string { data := #[] })] := by kernel_rfl
theorem apf_10 : apf Try.prog 10 = some (1, 16) := by kernel_rfl
theorem tyc_11 : tyc Try.prog 11 = some (false, 1) := by kernel_rfl
theorem zer_11 : zer Try.prog 11 = some [Go.Value.string { data := #[] }] := by kernel_rfl
theorem zds_11 : zds Try.prog 11 = some [.v (Go.Value.string { data := #[] })] := by kernel_rfl
theorem apf_11 : apf Try.prog 11 = some (1, 16) := by kernel_rfl
theorem tyc_12 : tyc Try.prog 12 = some (false, 1) := by kernel_rfl
theorem zer_12 : zer Try.prog 12 = some [Go.Value.int Go.IntKind.u64 0] := by kernel_rfl
theorem zds_12 : zds Try.prog 12 = some [.v (Go.Value.int Go.IntKind.u64 0)] := by kernel_rfl
theorem und_12 : Try.prog.underlying 12 = some (.int .u64) := by kernel_rfl
theorem apf_12 : apf Try.prog 12 = some (1, 8) := by kernel_rfl
theorem tyc_13 : tyc Try.prog 13 = some (true, 2) := by kernel_rfl
theorem zer_13 : zer Try.prog 13 = some [Go.Value.string { data := #[] }, Go.Value.int Go.IntKind.u64 0] := by kernel_rfl
theorem zds_13 : zds Try.prog 13 = some [.v (Go.Value.string { data := #[] }), .v (Go.Value.int Go.IntKind.u64 0)] := by kernel_rfl
theorem fld_13_0 : fld Try.prog 13 0 = some (0, 9) := by kernel_rfl
theorem fld_13_1 : fld Try.prog 13 1 = some (1, 12) := by kernel_rfl
theorem stf_13 : stf Try.prog 13 = some [(0, 1), (1, 1)] := by kernel_rfl
theorem arr_13 : arr Try.prog 13 = none := by kernel_rfl
theorem apf_13 : apf Try.prog 13 = some (2, 24) := by kernel_rfl
theorem tyc_14 : tyc Try.prog 14 = some (true, 2) := by kernel_rfl
theorem zer_14 : zer Try.prog 14 = some [Go.Value.string { data := #[] }, Go.Value.int Go.IntKind.u64 0] := by kernel_rfl
theorem zds_14 : zds Try.prog 14 = some [.v (Go.Value.string { data := #[] }), .v (Go.Value.int Go.IntKind.u64 0)] := by kernel_rfl
theorem fld_14_0 : fld Try.prog 14 0 = some (0, 9) := by kernel_rfl
theorem fld_14_1 : fld Try.prog 14 1 = some (1, 12) := by kernel_rfl
theorem stf_14 : stf Try.prog 14 = some [(0, 1), (1, 1)] := by kernel_rfl
theorem arr_14 : arr Try.prog 14 = none := by kernel_rfl
theorem apf_14 : apf Try.prog 14 = some (2, 24) := by kernel_rfl
theorem tyc_15 : tyc Try.prog 15 = some (false, 1) := by kernel_rfl
theorem zer_15 : zer Try.prog 15 = some [Go.Value.pointer none] := by kernel_rfl
theorem zds_15 : zds Try.prog 15 = some [.v (Go.Value.pointer none)] := by kernel_rfl
theorem apf_15 : apf Try.prog 15 = some (1, 8) := by kernel_rfl
theorem tyc_16 : tyc Try.prog 16 = some (false, 1) := by kernel_rfl
theorem zer_16 : zer Try.prog 16 = some [Go.Value.pointer none] := by kernel_rfl
theorem zds_16 : zds Try.prog 16 = some [.v (Go.Value.pointer none)] := by kernel_rfl
theorem apf_16 : apf Try.prog 16 = some (1, 8) := by kernel_rfl
theorem tyc_17 : tyc Try.prog 17 = some (false, 1) := by kernel_rfl
theorem zer_17 : zer Try.prog 17 = some [Go.Value.pointer none] := by kernel_rfl
theorem zds_17 : zds Try.prog 17 = some [.v (Go.Value.pointer none)] := by kernel_rfl
theorem apf_17 : apf Try.prog 17 = some (1, 8) := by kernel_rfl
theorem tyc_18 : tyc Try.prog 18 = some (true, 1) := by kernel_rfl
theorem zer_18 : zer Try.prog 18 = some [Go.Value.pointer none] := by kernel_rfl
theorem zds_18 : zds Try.prog 18 = some [.v (Go.Value.pointer none)] := by kernel_rfl
theorem fld_18_0 : fld Try.prog 18 0 = some (0, 17) := by kernel_rfl
theorem stf_18 : stf Try.prog 18 = some [(0, 1)] := by kernel_rfl
theorem arr_18 : arr Try.prog 18 = none := by kernel_rfl
theorem apf_18 : apf Try.prog 18 = some (1, 8) := by kernel_rfl
theorem tyc_19 : tyc Try.prog 19 = some (true, 1) := by kernel_rfl
theorem zer_19 : zer Try.prog 19 = some [Go.Value.pointer none] := by kernel_rfl
theorem zds_19 : zds Try.prog 19 = some [.v (Go.Value.pointer none)] := by kernel_rfl
theorem fld_19_0 : fld Try.prog 19 0 = some (0, 17) := by kernel_rfl
theorem stf_19 : stf Try.prog 19 = some [(0, 1)] := by kernel_rfl
theorem arr_19 : arr Try.prog 19 = none := by kernel_rfl
theorem apf_19 : apf Try.prog 19 = some (1, 8) := by kernel_rfl
theorem tyc_21 : tyc Try.prog 21 = some (false, 1) := by kernel_rfl
theorem zer_21 : zer Try.prog 21 = some [Go.Value.int Go.IntKind.i32 0] := by kernel_rfl
theorem zds_21 : zds Try.prog 21 = some [.v (Go.Value.int Go.IntKind.i32 0)] := by kernel_rfl
theorem und_21 : Try.prog.underlying 21 = some (.int .i32) := by kernel_rfl
theorem apf_21 : apf Try.prog 21 = some (1, 4) := by kernel_rfl
theorem tyc_22 : tyc Try.prog 22 = some (false, 1) := by kernel_rfl
theorem zer_22 : zer Try.prog 22 = some [Go.Value.slice none 0 0] := by kernel_rfl
theorem zds_22 : zds Try.prog 22 = some [.sl 2 []] := by kernel_rfl
theorem elt_22 : elt Try.prog 22 = some (29, 2) := by kernel_rfl
theorem apf_22 : apf Try.prog 22 = some (1, 24) := by kernel_rfl
theorem tyc_23 : tyc Try.prog 23 = some (false, 1) := by kernel_rfl
theorem zer_23 : zer Try.prog 23 = some [Go.Value.int Go.IntKind.u16 0] := by kernel_rfl
theorem zds_23 : zds Try.prog 23 = some [.v (Go.Value.int Go.IntKind.u16 0)] := by kernel_rfl
theorem und_23 : Try.prog.underlying 23 = some (.int .u16) := by kernel_rfl
theorem apf_23 : apf Try.prog 23 = some (1, 2) := by kernel_rfl
theorem tyc_24 : tyc Try.prog 24 = some (false, 1) := by kernel_rfl
theorem zer_24 : zer Try.prog 24 = some [Go.Value.slice none 0 0] := by kernel_rfl
theorem zds_24 : zds Try.prog 24 = some [.sl 1 []] := by kernel_rfl
theorem elt_24 : elt Try.prog 24 = some (32, 1) := by kernel_rfl
theorem apf_24 : apf Try.prog 24 = some (1, 24) := by kernel_rfl
theorem tyc_25 : tyc Try.prog 25 = some (false, 1) := by kernel_rfl
theorem zer_25 : zer Try.prog 25 = some [Go.Value.slice none 0 0] := by kernel_rfl
theorem zds_25 : zds Try.prog 25 = some [.sl 2 []] := by kernel_rfl
theorem elt_25 : elt Try.prog 25 = some (39, 2) := by kernel_rfl
theorem apf_25 : apf Try.prog 25 = some (1, 24) := by kernel_rfl
theorem tyc_26 : tyc Try.prog 26 = some (true, 2) := by kernel_rfl
theorem zer_26 : zer Try.prog 26 = some [Go.Value.slice none 0 0, Go.Value.slice none 0 0] := by kernel_rfl
theorem zds_26 : zds Try.prog 26 = some [.v (Go.Value.slice none 0 0), .v (Go.Value.slice none 0 0)] := by kernel_rfl
theorem fld_26_0 : fld Try.prog 26 0 = some (0, 24) := by kernel_rfl
theorem fld_26_1 : fld Try.prog 26 1 = some (1, 25) := by kernel_rfl
theorem stf_26 : stf Try.prog 26 = some [(0, 1), (1, 1)] := by kernel_rfl
theorem arr_26 : arr Try.prog 26 = none := by kernel_rfl
theorem apf_26 : apf Try.prog 26 = some (2, 48) := by kernel_rfl
theorem tyc_27 : tyc Try.prog 27 = some (true, 2) := by kernel_rfl
theorem zer_27 : zer Try.prog 27 = some [Go.Value.slice none 0 0, Go.Value.slice none 0 0] := by kernel_rfl
theorem zds_27 : zds Try.prog 27 = some [.v (Go.Value.slice none 0 0), .v (Go.Value.slice none 0 0)] := by kernel_rfl
theorem fld_27_0 : fld Try.prog 27 0 = some (0, 24) := by kernel_rfl
theorem fld_27_1 : fld Try.prog 27 1 = some (1, 25) := by kernel_rfl
theorem stf_27 : stf Try.prog 27 = some [(0, 1), (1, 1)] := by kernel_rfl
theorem arr_27 : arr Try.prog 27 = none := by kernel_rfl
theorem apf_27 : apf Try.prog 27 = some (2, 48) := by kernel_rfl
theorem tyc_28 : tyc Try.prog 28 = some (true, 3) := by kernel_rfl
theorem zer_28 : zer Try.prog 28 = some [Go.Value.int Go.IntKind.i64 0, Go.Value.int Go.IntKind.i64 0, Go.Value.int Go.IntKind.i64 0] := by kernel_rfl
theorem zds_28 : zds Try.prog 28 = some [.v (Go.Value.int Go.IntKind.i64 0), .v (Go.Value.int Go.IntKind.i64 0), .v (Go.Value.int Go.IntKind.i64 0)] := by kernel_rfl
theorem arr_28 : arr Try.prog 28 = some (3, 3, 1) := by kernel_rfl
theorem stf_28 : stf Try.prog 28 = none := by kernel_rfl
theorem apf_28 : apf Try.prog 28 = some (3, 24) := by kernel_rfl
theorem tyc_29 : tyc Try.prog 29 = some (true, 2) := by kernel_rfl
theorem zer_29 : zer Try.prog 29 = some [Go.Value.int Go.IntKind.u8 0, Go.Value.int Go.IntKind.u8 0] := by kernel_rfl
theorem zds_29 : zds Try.prog 29 = some [.v (Go.Value.int Go.IntKind.u8 0), .v (Go.Value.int Go.IntKind.u8 0)] := by kernel_rfl
theorem arr_29 : arr Try.prog 29 = some (2, 5, 1) := by kernel_rfl
theorem stf_29 : stf Try.prog 29 = none := by kernel_rfl
theorem apf_29 : apf Try.prog 29 = some (2, 2) := by kernel_rfl
theorem tyc_30 : tyc Try.prog 30 = some (false, 1) := by kernel_rfl
theorem zer_30 : zer Try.prog 30 = some [Go.Value.slice none 0 0] := by kernel_rfl
theorem zds_30 : zds Try.prog 30 = some [.sl 2 []] := by kernel_rfl
theorem elt_30 : elt Try.prog 30 = some (35, 2) := by kernel_rfl
theorem apf_30 : apf Try.prog 30 = some (1, 24) := by kernel_rfl
theorem tyc_31 : tyc Try.prog 31 = some (true, 1) := by kernel_rfl
theorem zer_31 : zer Try.prog 31 = some [Go.Value.slice none 0 0] := by kernel_rfl
theorem zds_31 : zds Try.prog 31 = some [.v (Go.Value.slice none 0 0)] := by kernel_rfl
theorem fld_31_0 : fld Try.prog 31 0 = some (0, 30) := by kernel_rfl
theorem stf_31 : stf Try.prog 31 = some [(0, 1)] := by kernel_rfl
theorem arr_31 : arr Try.prog 31 = none := by kernel_rfl
theorem apf_31 : apf Try.prog 31 = some (1, 24) := by kernel_rfl
theorem tyc_32 : tyc Try.prog 32 = some (true, 1) := by kernel_rfl
theorem zer_32 : zer Try.prog 32 = some [Go.Value.slice none 0 0] := by kernel_rfl
theorem zds_32 : zds Try.prog 32 = some [.v (Go.Value.slice none 0 0)] := by kernel_rfl
theorem fld_32_0 : fld Try.prog 32 0 = some (0, 30) := by kernel_rfl
theorem stf_32 : stf Try.prog 32 = some [(0, 1)] := by kernel_rfl
theorem arr_32 : arr Try.prog 32 = none := by kernel_rfl
theorem apf_32 : apf Try.prog 32 = some (1, 24) := by kernel_rfl
theorem tyc_33 : tyc Try.prog 33 = some (false, 1) := by kernel_rfl
theorem zer_33 : zer Try.prog 33 = some [Go.Value.nilFunc] := by kernel_rfl
theorem tyc_34 : tyc Try.prog 34 = some (true, 2) := by kernel_rfl
theorem zer_34 : zer Try.prog 34 = some [Go.Value.int Go.IntKind.i64 0, Go.Value.int Go.IntKind.i64 0] := by kernel_rfl
theorem zds_34 : zds Try.prog 34 = some [.v (Go.Value.int Go.IntKind.i64 0), .v (Go.Value.int Go.IntKind.i64 0)] := by kernel_rfl
theorem fld_34_0 : fld Try.prog 34 0 = some (0, 3) := by kernel_rfl
theorem fld_34_1 : fld Try.prog 34 1 = some (1, 3) := by kernel_rfl
theorem stf_34 : stf Try.prog 34 = some [(0, 1), (1, 1)] := by kernel_rfl
theorem arr_34 : arr Try.prog 34 = none := by kernel_rfl
theorem apf_34 : apf Try.prog 34 = some (2, 16) := by kernel_rfl
theorem tyc_35 : tyc Try.prog 35 = some (true, 2) := by kernel_rfl
theorem zer_35 : zer Try.prog 35 = some [Go.Value.int Go.IntKind.i64 0, Go.Value.int Go.IntKind.i64 0] := by kernel_rfl
theorem zds_35 : zds Try.prog 35 = some [.v (Go.Value.int Go.IntKind.i64 0), .v (Go.Value.int Go.IntKind.i64 0)] := by kernel_rfl
theorem fld_35_0 : fld Try.prog 35 0 = some (0, 3) := by kernel_rfl
theorem fld_35_1 : fld Try.prog 35 1 = some (1, 3) := by kernel_rfl
theorem stf_35 : stf Try.prog 35 = some [(0, 1), (1, 1)] := by kernel_rfl
theorem arr_35 : arr Try.prog 35 = none := by kernel_rfl
theorem apf_35 : apf Try.prog 35 = some (2, 16) := by kernel_rfl
theorem tyc_36 : tyc Try.prog 36 = some (false, 1) := by kernel_rfl
theorem zer_36 : zer Try.prog 36 = some [Go.Value.nilFunc] := by kernel_rfl
theorem tyc_37 : tyc Try.prog 37 = some (false, 1) := by kernel_rfl
theorem zer_37 : zer Try.prog 37 = some [Go.Value.nilFunc] := by kernel_rfl
theorem tyc_38 : tyc Try.prog 38 = some (true, 2) := by kernel_rfl
theorem zer_38 : zer Try.prog 38 = some [Go.Value.int Go.IntKind.i64 0, Go.Value.slice none 0 0] := by kernel_rfl
theorem zds_38 : zds Try.prog 38 = some [.v (Go.Value.int Go.IntKind.i64 0), .v (Go.Value.slice none 0 0)] := by kernel_rfl
theorem fld_38_0 : fld Try.prog 38 0 = some (0, 3) := by kernel_rfl
theorem fld_38_1 : fld Try.prog 38 1 = some (1, 30) := by kernel_rfl
theorem stf_38 : stf Try.prog 38 = some [(0, 1), (1, 1)] := by kernel_rfl
theorem arr_38 : arr Try.prog 38 = none := by kernel_rfl
theorem apf_38 : apf Try.prog 38 = some (2, 32) := by kernel_rfl
theorem tyc_39 : tyc Try.prog 39 = some (true, 2) := by kernel_rfl
theorem zer_39 : zer Try.prog 39 = some [Go.Value.int Go.IntKind.i64 0, Go.Value.slice none 0 0] := by kernel_rfl
theorem zds_39 : zds Try.prog 39 = some [.v (Go.Value.int Go.IntKind.i64 0), .v (Go.Value.slice none 0 0)] := by kernel_rfl
theorem fld_39_0 : fld Try.prog 39 0 = some (0, 3) := by kernel_rfl
theorem fld_39_1 : fld Try.prog 39 1 = some (1, 30) := by kernel_rfl
theorem stf_39 : stf Try.prog 39 = some [(0, 1), (1, 1)] := by kernel_rfl
theorem arr_39 : arr Try.prog 39 = none := by kernel_rfl
theorem apf_39 : apf Try.prog 39 = some (2, 32) := by kernel_rfl
theorem tyc_40 : tyc Try.prog 40 = some (false, 1) := by kernel_rfl
theorem zer_40 : zer Try.prog 40 = some [Go.Value.nilFunc] := by kernel_rfl
theorem tyc_41 : tyc Try.prog 41 = some (false, 1) := by kernel_rfl
theorem zer_41 : zer Try.prog 41 = some [Go.Value.slice none 0 0] := by kernel_rfl
theorem zds_41 : zds Try.prog 41 = some [.sl 1 []] := by kernel_rfl
theorem elt_41 : elt Try.prog 41 = some (3, 1) := by kernel_rfl
theorem apf_41 : apf Try.prog 41 = some (1, 24) := by kernel_rfl
theorem tyc_42 : tyc Try.prog 42 = some (false, 1) := by kernel_rfl
theorem zer_42 : zer Try.prog 42 = some [Go.Value.int Go.IntKind.i64 0] := by kernel_rfl
theorem zds_42 : zds Try.prog 42 = some [.v (Go.Value.int Go.IntKind.i64 0)] := by kernel_rfl
theorem und_42 : Try.prog.underlying 42 = some (.int .i64) := by kernel_rfl
theorem apf_42 : apf Try.prog 42 = some (1, 8) := by kernel_rfl
theorem tyc_44 : tyc Try.prog 44 = some (false, 1) := by kernel_rfl
theorem zer_44 : zer Try.prog 44 = some [Go.Value.nilFunc] := by kernel_rfl
theorem tyc_45 : tyc Try.prog 45 = some (false, 1) := by kernel_rfl
theorem zer_45 : zer Try.prog 45 = some [Go.Value.nilFunc] := by kernel_rfl
theorem tyc_47 : tyc Try.prog 47 = some (false, 1) := by kernel_rfl
theorem zer_47 : zer Try.prog 47 = some [Go.Value.nilFunc] := by kernel_rfl
theorem tyc_48 : tyc Try.prog 48 = some (false, 1) := by kernel_rfl
theorem zer_48 : zer Try.prog 48 = some [Go.Value.nilFunc] := by kernel_rfl
theorem tyc_49 : tyc Try.prog 49 = some (true, 3) := by kernel_rfl
theorem zer_49 : zer Try.prog 49 = some [Go.Value.int Go.IntKind.i64 0, Go.Value.slice none 0 0, Go.Value.slice none 0 0] := by kernel_rfl
theorem zds_49 : zds Try.prog 49 = some [.v (Go.Value.int Go.IntKind.i64 0), .v (Go.Value.slice none 0 0), .v (Go.Value.slice none 0 0)] := by kernel_rfl
theorem fld_49_0 : fld Try.prog 49 0 = some (0, 3) := by kernel_rfl
theorem fld_49_1 : fld Try.prog 49 1 = some (1, 30) := by kernel_rfl
theorem fld_49_2 : fld Try.prog 49 2 = some (2, 41) := by kernel_rfl
theorem stf_49 : stf Try.prog 49 = some [(0, 1), (1, 1), (2, 1)] := by kernel_rfl
theorem arr_49 : arr Try.prog 49 = none := by kernel_rfl
theorem apf_49 : apf Try.prog 49 = some (3, 56) := by kernel_rfl
theorem tyc_50 : tyc Try.prog 50 = some (true, 3) := by kernel_rfl
theorem zer_50 : zer Try.prog 50 = some [Go.Value.int Go.IntKind.i64 0, Go.Value.slice none 0 0, Go.Value.slice none 0 0] := by kernel_rfl
theorem zds_50 : zds Try.prog 50 = some [.v (Go.Value.int Go.IntKind.i64 0), .v (Go.Value.slice none 0 0), .v (Go.Value.slice none 0 0)] := by kernel_rfl
theorem fld_50_0 : fld Try.prog 50 0 = some (0, 3) := by kernel_rfl
theorem fld_50_1 : fld Try.prog 50 1 = some (1, 30) := by kernel_rfl
theorem fld_50_2 : fld Try.prog 50 2 = some (2, 41) := by kernel_rfl
theorem stf_50 : stf Try.prog 50 = some [(0, 1), (1, 1), (2, 1)] := by kernel_rfl
theorem arr_50 : arr Try.prog 50 = none := by kernel_rfl
theorem apf_50 : apf Try.prog 50 = some (3, 56) := by kernel_rfl
theorem tyc_51 : tyc Try.prog 51 = some (false, 1) := by kernel_rfl
theorem zer_51 : zer Try.prog 51 = some [Go.Value.slice none 0 0] := by kernel_rfl
theorem zds_51 : zds Try.prog 51 = some [.sl 4 []] := by kernel_rfl
theorem elt_51 : elt Try.prog 51 = some (54, 4) := by kernel_rfl
theorem apf_51 : apf Try.prog 51 = some (1, 24) := by kernel_rfl
theorem tyc_52 : tyc Try.prog 52 = some (false, 1) := by kernel_rfl
theorem zer_52 : zer Try.prog 52 = some [Go.Value.int Go.IntKind.i64 0] := by kernel_rfl
theorem zds_52 : zds Try.prog 52 = some [.v (Go.Value.int Go.IntKind.i64 0)] := by kernel_rfl
theorem und_52 : Try.prog.underlying 52 = some (.int .i64) := by kernel_rfl
theorem apf_52 : apf Try.prog 52 = some (1, 8) := by kernel_rfl
theorem tyc_53 : tyc Try.prog 53 = some (true, 4) := by kernel_rfl
theorem zer_53 : zer Try.prog 53 = some [Go.Value.int Go.IntKind.i64 0, Go.Value.int Go.IntKind.i64 0, Go.Value.int Go.IntKind.i64 0, Go.Value.int Go.IntKind.i64 0] := by kernel_rfl
theorem zds_53 : zds Try.prog 53 = some [.v (Go.Value.int Go.IntKind.i64 0), .v (Go.Value.int Go.IntKind.i64 0), .v (Go.Value.int Go.IntKind.i64 0), .v (Go.Value.int Go.IntKind.i64 0)] := by kernel_rfl
theorem fld_53_0 : fld Try.prog 53 0 = some (0, 3) := by kernel_rfl
theorem fld_53_1 : fld Try.prog 53 1 = some (1, 52) := by kernel_rfl
theorem fld_53_2 : fld Try.prog 53 2 = some (2, 3) := by kernel_rfl
theorem fld_53_3 : fld Try.prog 53 3 = some (3, 3) := by kernel_rfl
theorem stf_53 : stf Try.prog 53 = some [(0, 1), (1, 1), (2, 1), (3, 1)] := by kernel_rfl
theorem arr_53 : arr Try.prog 53 = none := by kernel_rfl
theorem apf_53 : apf Try.prog 53 = some (4, 32) := by kernel_rfl
theorem tyc_54 : tyc Try.prog 54 = some (true, 4) := by kernel_rfl
theorem zer_54 : zer Try.prog 54 = some [Go.Value.int Go.IntKind.i64 0, Go.Value.int Go.IntKind.i64 0, Go.Value.int Go.IntKind.i64 0, Go.Value.int Go.IntKind.i64 0] := by kernel_rfl
theorem zds_54 : zds Try.prog 54 = some [.v (Go.Value.int Go.IntKind.i64 0), .v (Go.Value.int Go.IntKind.i64 0), .v (Go.Value.int Go.IntKind.i64 0), .v (Go.Value.int Go.IntKind.i64 0)] := by kernel_rfl
theorem fld_54_0 : fld Try.prog 54 0 = some (0, 3) := by kernel_rfl
theorem fld_54_1 : fld Try.prog 54 1 = some (1, 52) := by kernel_rfl
theorem fld_54_2 : fld Try.prog 54 2 = some (2, 3) := by kernel_rfl
theorem fld_54_3 : fld Try.prog 54 3 = some (3, 3) := by kernel_rfl
theorem stf_54 : stf Try.prog 54 = some [(0, 1), (1, 1), (2, 1), (3, 1)] := by kernel_rfl
theorem arr_54 : arr Try.prog 54 = none := by kernel_rfl
theorem apf_54 : apf Try.prog 54 = some (4, 32) := by kernel_rfl
theorem tyc_55 : tyc Try.prog 55 = some (true, 4) := by kernel_rfl
theorem zer_55 : zer Try.prog 55 = some [Go.Value.int Go.IntKind.i64 0, Go.Value.int Go.IntKind.i64 0, Go.Value.int Go.IntKind.i64 0, Go.Value.int Go.IntKind.i64 0] := by kernel_rfl
theorem zds_55 : zds Try.prog 55 = some [.v (Go.Value.int Go.IntKind.i64 0), .v (Go.Value.int Go.IntKind.i64 0), .v (Go.Value.int Go.IntKind.i64 0), .v (Go.Value.int Go.IntKind.i64 0)] := by kernel_rfl
theorem arr_55 : arr Try.prog 55 = some (2, 35, 2) := by kernel_rfl
theorem stf_55 : stf Try.prog 55 = none := by kernel_rfl
theorem apf_55 : apf Try.prog 55 = some (4, 32) := by kernel_rfl
theorem tyc_57 : tyc Try.prog 57 = some (false, 1) := by kernel_rfl
theorem zer_57 : zer Try.prog 57 = some [Go.Value.nilFunc] := by kernel_rfl
theorem tyc_58 : tyc Try.prog 58 = some (false, 1) := by kernel_rfl
theorem zer_58 : zer Try.prog 58 = some [Go.Value.nilFunc] := by kernel_rfl
theorem tyc_59 : tyc Try.prog 59 = some (false, 1) := by kernel_rfl
theorem zer_59 : zer Try.prog 59 = some [Go.Value.int Go.IntKind.u64 0] := by kernel_rfl
theorem zds_59 : zds Try.prog 59 = some [.v (Go.Value.int Go.IntKind.u64 0)] := by kernel_rfl
theorem und_59 : Try.prog.underlying 59 = some (.int .u64) := by kernel_rfl
theorem apf_59 : apf Try.prog 59 = some (1, 8) := by kernel_rfl
theorem tyc_61 : tyc Try.prog 61 = some (false, 1) := by kernel_rfl
theorem zer_61 : zer Try.prog 61 = some [Go.Value.nilFunc] := by kernel_rfl
theorem tyc_62 : tyc Try.prog 62 = some (false, 1) := by kernel_rfl
theorem zer_62 : zer Try.prog 62 = some [Go.Value.nilFunc] := by kernel_rfl
theorem tyc_63 : tyc Try.prog 63 = some (true, 2) := by kernel_rfl
theorem zer_63 : zer Try.prog 63 = some [Go.Value.int Go.IntKind.i64 0, Go.Value.int Go.IntKind.i64 0] := by kernel_rfl
theorem zds_63 : zds Try.prog 63 = some [.v (Go.Value.int Go.IntKind.i64 0), .v (Go.Value.int Go.IntKind.i64 0)] := by kernel_rfl
theorem fld_63_0 : fld Try.prog 63 0 = some (0, 3) := by kernel_rfl
theorem fld_63_1 : fld Try.prog 63 1 = some (1, 3) := by kernel_rfl
theorem stf_63 : stf Try.prog 63 = some [(0, 1), (1, 1)] := by kernel_rfl
theorem arr_63 : arr Try.prog 63 = none := by kernel_rfl
theorem apf_63 : apf Try.prog 63 = some (2, 16) := by kernel_rfl
theorem tyc_64 : tyc Try.prog 64 = some (true, 2) := by kernel_rfl
theorem zer_64 : zer Try.prog 64 = some [Go.Value.int Go.IntKind.i64 0, Go.Value.int Go.IntKind.i64 0] := by kernel_rfl
theorem zds_64 : zds Try.prog 64 = some [.v (Go.Value.int Go.IntKind.i64 0), .v (Go.Value.int Go.IntKind.i64 0)] := by kernel_rfl
theorem fld_64_0 : fld Try.prog 64 0 = some (0, 3) := by kernel_rfl
theorem fld_64_1 : fld Try.prog 64 1 = some (1, 3) := by kernel_rfl
theorem stf_64 : stf Try.prog 64 = some [(0, 1), (1, 1)] := by kernel_rfl
theorem arr_64 : arr Try.prog 64 = none := by kernel_rfl
theorem apf_64 : apf Try.prog 64 = some (2, 16) := by kernel_rfl
theorem tyc_65 : tyc Try.prog 65 = some (false, 1) := by kernel_rfl
theorem zer_65 : zer Try.prog 65 = some [Go.Value.slice none 0 0] := by kernel_rfl
theorem zds_65 : zds Try.prog 65 = some [.sl 2 []] := by kernel_rfl
theorem elt_65 : elt Try.prog 65 = some (64, 2) := by kernel_rfl
theorem apf_65 : apf Try.prog 65 = some (1, 24) := by kernel_rfl
theorem tyc_66 : tyc Try.prog 66 = some (true, 3) := by kernel_rfl
theorem zer_66 : zer Try.prog 66 = some [Go.Value.slice none 0 0, Go.Value.int Go.IntKind.i64 0, Go.Value.int Go.IntKind.i64 0] := by kernel_rfl
theorem zds_66 : zds Try.prog 66 = some [.v (Go.Value.slice none 0 0), .v (Go.Value.int Go.IntKind.i64 0), .v (Go.Value.int Go.IntKind.i64 0)] := by kernel_rfl
theorem fld_66_0 : fld Try.prog 66 0 = some (0, 65) := by kernel_rfl
theorem fld_66_1 : fld Try.prog 66 1 = some (1, 3) := by kernel_rfl
theorem fld_66_2 : fld Try.prog 66 2 = some (2, 3) := by kernel_rfl
theorem stf_66 : stf Try.prog 66 = some [(0, 1), (1, 1), (2, 1)] := by kernel_rfl
theorem arr_66 : arr Try.prog 66 = none := by kernel_rfl
theorem apf_66 : apf Try.prog 66 = some (3, 40) := by kernel_rfl
theorem tyc_67 : tyc Try.prog 67 = some (true, 3) := by kernel_rfl
theorem zer_67 : zer Try.prog 67 = some [Go.Value.slice none 0 0, Go.Value.int Go.IntKind.i64 0, Go.Value.int Go.IntKind.i64 0] := by kernel_rfl
theorem zds_67 : zds Try.prog 67 = some [.v (Go.Value.slice none 0 0), .v (Go.Value.int Go.IntKind.i64 0), .v (Go.Value.int Go.IntKind.i64 0)] := by kernel_rfl
theorem fld_67_0 : fld Try.prog 67 0 = some (0, 65) := by kernel_rfl
theorem fld_67_1 : fld Try.prog 67 1 = some (1, 3) := by kernel_rfl
theorem fld_67_2 : fld Try.prog 67 2 = some (2, 3) := by kernel_rfl
theorem stf_67 : stf Try.prog 67 = some [(0, 1), (1, 1), (2, 1)] := by kernel_rfl
theorem arr_67 : arr Try.prog 67 = none := by kernel_rfl
theorem apf_67 : apf Try.prog 67 = some (3, 40) := by kernel_rfl
theorem tyc_68 : tyc Try.prog 68 = some (false, 1) := by kernel_rfl
theorem zer_68 : zer Try.prog 68 = some [Go.Value.nilFunc] := by kernel_rfl
theorem tyc_69 : tyc Try.prog 69 = some (false, 1) := by kernel_rfl
theorem zer_69 : zer Try.prog 69 = some [Go.Value.nilFunc] := by kernel_rfl
theorem tyc_70 : tyc Try.prog 70 = some (true, 2) := by kernel_rfl
theorem zer_70 : zer Try.prog 70 = some [Go.Value.slice none 0 0, Go.Value.slice none 0 0] := by kernel_rfl
theorem zds_70 : zds Try.prog 70 = some [.v (Go.Value.slice none 0 0), .v (Go.Value.slice none 0 0)] := by kernel_rfl
theorem fld_70_0 : fld Try.prog 70 0 = some (0, 27) := by kernel_rfl
theorem stf_70 : stf Try.prog 70 = some [(0, 2)] := by kernel_rfl
theorem arr_70 : arr Try.prog 70 = none := by kernel_rfl
theorem apf_70 : apf Try.prog 70 = some (2, 48) := by kernel_rfl
theorem tyc_71 : tyc Try.prog 71 = some (true, 2) := by kernel_rfl
theorem zer_71 : zer Try.prog 71 = some [Go.Value.slice none 0 0, Go.Value.slice none 0 0] := by kernel_rfl
theorem zds_71 : zds Try.prog 71 = some [.v (Go.Value.slice none 0 0), .v (Go.Value.slice none 0 0)] := by kernel_rfl
theorem fld_71_0 : fld Try.prog 71 0 = some (0, 27) := by kernel_rfl
theorem stf_71 : stf Try.prog 71 = some [(0, 2)] := by kernel_rfl
theorem arr_71 : arr Try.prog 71 = none := by kernel_rfl
theorem apf_71 : apf Try.prog 71 = some (2, 48) := by kernel_rfl
theorem tyc_72 : tyc Try.prog 72 = some (false, 1) := by kernel_rfl
theorem zer_72 : zer Try.prog 72 = some [Go.Value.slice none 0 0] := by kernel_rfl
theorem zds_72 : zds Try.prog 72 = some [.sl 1 []] := by kernel_rfl
theorem elt_72 : elt Try.prog 72 = some (75, 1) := by kernel_rfl
theorem apf_72 : apf Try.prog 72 = some (1, 24) := by kernel_rfl
theorem tyc_74 : tyc Try.prog 74 = some (false, 1) := by kernel_rfl
theorem zer_74 : zer Try.prog 74 = some [Go.Value.nilFunc] := by kernel_rfl
theorem tyc_75 : tyc Try.prog 75 = some (false, 1) := by kernel_rfl
theorem zer_75 : zer Try.prog 75 = some [Go.Value.slice none 0 0] := by kernel_rfl
theorem zds_75 : zds Try.prog 75 = some [.sl 1 []] := by kernel_rfl
theorem elt_75 : elt Try.prog 75 = some (3, 1) := by kernel_rfl
theorem apf_75 : apf Try.prog 75 = some (1, 24) := by kernel_rfl
theorem tyc_76 : tyc Try.prog 76 = some (false, 1) := by kernel_rfl
theorem zer_76 : zer Try.prog 76 = some [Go.Value.nilFunc] := by kernel_rfl
theorem tyc_77 : tyc Try.prog 77 = some (true, 4) := by kernel_rfl
theorem zer_77 : zer Try.prog 77 = some [Go.Value.int Go.IntKind.i64 0, Go.Value.slice none 0 0, Go.Value.slice none 0 0, Go.Value.slice none 0 0] := by kernel_rfl
theorem zds_77 : zds Try.prog 77 = some [.v (Go.Value.int Go.IntKind.i64 0), .v (Go.Value.slice none 0 0), .v (Go.Value.slice none 0 0), .v (Go.Value.slice none 0 0)] := by kernel_rfl
theorem fld_77_0 : fld Try.prog 77 0 = some (0, 50) := by kernel_rfl
theorem fld_77_1 : fld Try.prog 77 1 = some (3, 51) := by kernel_rfl
theorem stf_77 : stf Try.prog 77 = some [(0, 3), (3, 1)] := by kernel_rfl
theorem arr_77 : arr Try.prog 77 = none := by kernel_rfl
theorem apf_77 : apf Try.prog 77 = some (4, 80) := by kernel_rfl
theorem tyc_78 : tyc Try.prog 78 = some (true, 4) := by kernel_rfl
theorem zer_78 : zer Try.prog 78 = some [Go.Value.int Go.IntKind.i64 0, Go.Value.slice none 0 0, Go.Value.slice none 0 0, Go.Value.slice none 0 0] := by kernel_rfl
theorem zds_78 : zds Try.prog 78 = some [.v (Go.Value.int Go.IntKind.i64 0), .v (Go.Value.slice none 0 0), .v (Go.Value.slice none 0 0), .v (Go.Value.slice none 0 0)] := by kernel_rfl
theorem fld_78_0 : fld Try.prog 78 0 = some (0, 50) := by kernel_rfl
theorem fld_78_1 : fld Try.prog 78 1 = some (3, 51) := by kernel_rfl
theorem stf_78 : stf Try.prog 78 = some [(0, 3), (3, 1)] := by kernel_rfl
theorem arr_78 : arr Try.prog 78 = none := by kernel_rfl
theorem apf_78 : apf Try.prog 78 = some (4, 80) := by kernel_rfl
theorem tyc_80 : tyc Try.prog 80 = some (false, 1) := by kernel_rfl
theorem zer_80 : zer Try.prog 80 = some [Go.Value.nilFunc] := by kernel_rfl
theorem tyc_81 : tyc Try.prog 81 = some (false, 1) := by kernel_rfl
theorem zer_81 : zer Try.prog 81 = some [Go.Value.nilFunc] := by kernel_rfl
theorem tyc_82 : tyc Try.prog 82 = some (false, 1) := by kernel_rfl
theorem zer_82 : zer Try.prog 82 = some [Go.Value.nilFunc] := by kernel_rfl
theorem tyc_83 : tyc Try.prog 83 = some (false, 1) := by kernel_rfl
theorem zer_83 : zer Try.prog 83 = some [Go.Value.nilFunc] := by kernel_rfl
theorem tyc_84 : tyc Try.prog 84 = some (true, 7) := by kernel_rfl
theorem zer_84 : zer Try.prog 84 = some [Go.Value.int Go.IntKind.i64 0, Go.Value.int Go.IntKind.i64 0, Go.Value.int Go.IntKind.i64 0, Go.Value.int Go.IntKind.i64 0, Go.Value.int Go.IntKind.i64 0, Go.Value.int Go.IntKind.i64 0, Go.Value.int Go.IntKind.i64 0] := by kernel_rfl
theorem zds_84 : zds Try.prog 84 = some [.v (Go.Value.int Go.IntKind.i64 0), .v (Go.Value.int Go.IntKind.i64 0), .v (Go.Value.int Go.IntKind.i64 0), .v (Go.Value.int Go.IntKind.i64 0), .v (Go.Value.int Go.IntKind.i64 0), .v (Go.Value.int Go.IntKind.i64 0), .v (Go.Value.int Go.IntKind.i64 0)] := by kernel_rfl
theorem fld_84_0 : fld Try.prog 84 0 = some (0, 35) := by kernel_rfl
theorem fld_84_1 : fld Try.prog 84 1 = some (2, 35) := by kernel_rfl
theorem fld_84_2 : fld Try.prog 84 2 = some (4, 35) := by kernel_rfl
theorem fld_84_3 : fld Try.prog 84 3 = some (6, 3) := by kernel_rfl
theorem stf_84 : stf Try.prog 84 = some [(0, 2), (2, 2), (4, 2), (6, 1)] := by kernel_rfl
theorem arr_84 : arr Try.prog 84 = none := by kernel_rfl
theorem apf_84 : apf Try.prog 84 = some (7, 56) := by kernel_rfl
theorem tyc_85 : tyc Try.prog 85 = some (true, 7) := by kernel_rfl
theorem zer_85 : zer Try.prog 85 = some [Go.Value.int Go.IntKind.i64 0, Go.Value.int Go.IntKind.i64 0, Go.Value.int Go.IntKind.i64 0, Go.Value.int Go.IntKind.i64 0, Go.Value.int Go.IntKind.i64 0, Go.Value.int Go.IntKind.i64 0, Go.Value.int Go.IntKind.i64 0] := by kernel_rfl
theorem zds_85 : zds Try.prog 85 = some [.v (Go.Value.int Go.IntKind.i64 0), .v (Go.Value.int Go.IntKind.i64 0), .v (Go.Value.int Go.IntKind.i64 0), .v (Go.Value.int Go.IntKind.i64 0), .v (Go.Value.int Go.IntKind.i64 0), .v (Go.Value.int Go.IntKind.i64 0), .v (Go.Value.int Go.IntKind.i64 0)] := by kernel_rfl
theorem fld_85_0 : fld Try.prog 85 0 = some (0, 35) := by kernel_rfl
theorem fld_85_1 : fld Try.prog 85 1 = some (2, 35) := by kernel_rfl
theorem fld_85_2 : fld Try.prog 85 2 = some (4, 35) := by kernel_rfl
theorem fld_85_3 : fld Try.prog 85 3 = some (6, 3) := by kernel_rfl
theorem stf_85 : stf Try.prog 85 = some [(0, 2), (2, 2), (4, 2), (6, 1)] := by kernel_rfl
theorem arr_85 : arr Try.prog 85 = none := by kernel_rfl
theorem apf_85 : apf Try.prog 85 = some (7, 56) := by kernel_rfl
theorem tyc_86 : tyc Try.prog 86 = some (false, 1) := by kernel_rfl
theorem zer_86 : zer Try.prog 86 = some [Go.Value.nilFunc] := by kernel_rfl
theorem tyc_87 : tyc Try.prog 87 = some (true, 6) := by kernel_rfl
theorem zer_87 : zer Try.prog 87 = some [Go.Value.int Go.IntKind.i64 0, Go.Value.int Go.IntKind.i64 0, Go.Value.int Go.IntKind.i64 0, Go.Value.int Go.IntKind.i64 0, Go.Value.int Go.IntKind.i64 0, Go.Value.int Go.IntKind.i64 0] := by kernel_rfl
theorem zds_87 : zds Try.prog 87 = some [.v (Go.Value.int Go.IntKind.i64 0), .v (Go.Value.int Go.IntKind.i64 0), .v (Go.Value.int Go.IntKind.i64 0), .v (Go.Value.int Go.IntKind.i64 0), .v (Go.Value.int Go.IntKind.i64 0), .v (Go.Value.int Go.IntKind.i64 0)] := by kernel_rfl
theorem arr_87 : arr Try.prog 87 = some (3, 35, 2) := by kernel_rfl
theorem stf_87 : stf Try.prog 87 = none := by kernel_rfl
theorem apf_87 : apf Try.prog 87 = some (6, 48) := by kernel_rfl
theorem tyc_88 : tyc Try.prog 88 = some (true, 6) := by kernel_rfl
theorem zer_88 : zer Try.prog 88 = some [Go.Value.int Go.IntKind.i64 0, Go.Value.int Go.IntKind.i64 0, Go.Value.int Go.IntKind.i64 0, Go.Value.int Go.IntKind.i64 0, Go.Value.int Go.IntKind.i64 0, Go.Value.int Go.IntKind.i64 0] := by kernel_rfl
theorem zds_88 : zds Try.prog 88 = some [.v (Go.Value.int Go.IntKind.i64 0), .v (Go.Value.int Go.IntKind.i64 0), .v (Go.Value.int Go.IntKind.i64 0), .v (Go.Value.int Go.IntKind.i64 0), .v (Go.Value.int Go.IntKind.i64 0), .v (Go.Value.int Go.IntKind.i64 0)] := by kernel_rfl
theorem arr_88 : arr Try.prog 88 = some (3, 35, 2) := by kernel_rfl
theorem stf_88 : stf Try.prog 88 = none := by kernel_rfl
theorem apf_88 : apf Try.prog 88 = some (6, 48) := by kernel_rfl
theorem tyc_89 : tyc Try.prog 89 = some (true, 7) := by kernel_rfl
theorem zer_89 : zer Try.prog 89 = some [Go.Value.int Go.IntKind.i64 0, Go.Value.int Go.IntKind.i64 0, Go.Value.int Go.IntKind.i64 0, Go.Value.int Go.IntKind.i64 0, Go.Value.int Go.IntKind.i64 0, Go.Value.int Go.IntKind.i64 0, Go.Value.int Go.IntKind.i64 0] := by kernel_rfl
theorem zds_89 : zds Try.prog 89 = some [.v (Go.Value.int Go.IntKind.i64 0), .v (Go.Value.int Go.IntKind.i64 0), .v (Go.Value.int Go.IntKind.i64 0), .v (Go.Value.int Go.IntKind.i64 0), .v (Go.Value.int Go.IntKind.i64 0), .v (Go.Value.int Go.IntKind.i64 0), .v (Go.Value.int Go.IntKind.i64 0)] := by kernel_rfl
theorem fld_89_0 : fld Try.prog 89 0 = some (0, 3) := by kernel_rfl
theorem fld_89_1 : fld Try.prog 89 1 = some (1, 88) := by kernel_rfl
theorem stf_89 : stf Try.prog 89 = some [(0, 1), (1, 6)] := by kernel_rfl
theorem arr_89 : arr Try.prog 89 = none := by kernel_rfl
theorem apf_89 : apf Try.prog 89 = some (7, 56) := by kernel_rfl
theorem tyc_90 : tyc Try.prog 90 = some (true, 7) := by kernel_rfl
theorem zer_90 : zer Try.prog 90 = some [Go.Value.int Go.IntKind.i64 0, Go.Value.int Go.IntKind.i64 0, Go.Value.int Go.IntKind.i64 0, Go.Value.int Go.IntKind.i64 0, Go.Value.int Go.IntKind.i64 0, Go.Value.int Go.IntKind.i64 0, Go.Value.int Go.IntKind.i64 0] := by kernel_rfl
theorem zds_90 : zds Try.prog 90 = some [.v (Go.Value.int Go.IntKind.i64 0), .v (Go.Value.int Go.IntKind.i64 0), .v (Go.Value.int Go.IntKind.i64 0), .v (Go.Value.int Go.IntKind.i64 0), .v (Go.Value.int Go.IntKind.i64 0), .v (Go.Value.int Go.IntKind.i64 0), .v (Go.Value.int Go.IntKind.i64 0)] := by kernel_rfl
theorem fld_90_0 : fld Try.prog 90 0 = some (0, 3) := by kernel_rfl
theorem fld_90_1 : fld Try.prog 90 1 = some (1, 88) := by kernel_rfl
theorem stf_90 : stf Try.prog 90 = some [(0, 1), (1, 6)] := by kernel_rfl
theorem arr_90 : arr Try.prog 90 = none := by kernel_rfl
theorem apf_90 : apf Try.prog 90 = some (7, 56) := by kernel_rfl
theorem tyc_91 : tyc Try.prog 91 = some (false, 1) := by kernel_rfl
theorem zer_91 : zer Try.prog 91 = some [Go.Value.nilFunc] := by kernel_rfl
theorem tyc_93 : tyc Try.prog 93 = some (false, 1) := by kernel_rfl
theorem zer_93 : zer Try.prog 93 = some [Go.Value.nilFunc] := by kernel_rfl
theorem tyc_94 : tyc Try.prog 94 = some (true, 3) := by kernel_rfl
theorem zer_94 : zer Try.prog 94 = some [Go.Value.int Go.IntKind.i64 0, Go.Value.int Go.IntKind.i64 0, Go.Value.int Go.IntKind.i64 0] := by kernel_rfl
theorem zds_94 : zds Try.prog 94 = some [.v (Go.Value.int Go.IntKind.i64 0), .v (Go.Value.int Go.IntKind.i64 0), .v (Go.Value.int Go.IntKind.i64 0)] := by kernel_rfl
theorem fld_94_0 : fld Try.prog 94 0 = some (0, 3) := by kernel_rfl
theorem fld_94_1 : fld Try.prog 94 1 = some (1, 3) := by kernel_rfl
theorem fld_94_2 : fld Try.prog 94 2 = some (2, 3) := by kernel_rfl
theorem stf_94 : stf Try.prog 94 = some [(0, 1), (1, 1), (2, 1)] := by kernel_rfl
theorem arr_94 : arr Try.prog 94 = none := by kernel_rfl
theorem apf_94 : apf Try.prog 94 = some (3, 24) := by kernel_rfl
theorem tyc_95 : tyc Try.prog 95 = some (true, 3) := by kernel_rfl
theorem zer_95 : zer Try.prog 95 = some [Go.Value.int Go.IntKind.i64 0, Go.Value.int Go.IntKind.i64 0, Go.Value.int Go.IntKind.i64 0] := by kernel_rfl
theorem zds_95 : zds Try.prog 95 = some [.v (Go.Value.int Go.IntKind.i64 0), .v (Go.Value.int Go.IntKind.i64 0), .v (Go.Value.int Go.IntKind.i64 0)] := by kernel_rfl
theorem fld_95_0 : fld Try.prog 95 0 = some (0, 3) := by kernel_rfl
theorem fld_95_1 : fld Try.prog 95 1 = some (1, 3) := by kernel_rfl
theorem fld_95_2 : fld Try.prog 95 2 = some (2, 3) := by kernel_rfl
theorem stf_95 : stf Try.prog 95 = some [(0, 1), (1, 1), (2, 1)] := by kernel_rfl
theorem arr_95 : arr Try.prog 95 = none := by kernel_rfl
theorem apf_95 : apf Try.prog 95 = some (3, 24) := by kernel_rfl
theorem tyc_96 : tyc Try.prog 96 = some (false, 1) := by kernel_rfl
theorem zer_96 : zer Try.prog 96 = some [Go.Value.nilFunc] := by kernel_rfl
theorem tyc_97 : tyc Try.prog 97 = some (false, 1) := by kernel_rfl
theorem zer_97 : zer Try.prog 97 = some [Go.Value.nilFunc] := by kernel_rfl
theorem tyc_98 : tyc Try.prog 98 = some (false, 1) := by kernel_rfl
theorem zer_98 : zer Try.prog 98 = some [Go.Value.nilFunc] := by kernel_rfl
theorem tyc_99 : tyc Try.prog 99 = some (false, 1) := by kernel_rfl
theorem zer_99 : zer Try.prog 99 = some [Go.Value.nilFunc] := by kernel_rfl
theorem tyc_100 : tyc Try.prog 100 = some (false, 1) := by kernel_rfl
theorem zer_100 : zer Try.prog 100 = some [Go.Value.nilFunc] := by kernel_rfl
theorem tyc_101 : tyc Try.prog 101 = some (false, 1) := by kernel_rfl
theorem zer_101 : zer Try.prog 101 = some [Go.Value.nilFunc] := by kernel_rfl
theorem tyc_102 : tyc Try.prog 102 = some (false, 1) := by kernel_rfl
theorem zer_102 : zer Try.prog 102 = some [Go.Value.nilFunc] := by kernel_rfl
theorem tyc_103 : tyc Try.prog 103 = some (false, 1) := by kernel_rfl
theorem zer_103 : zer Try.prog 103 = some [Go.Value.nilFunc] := by kernel_rfl
theorem tyc_104 : tyc Try.prog 104 = some (false, 1) := by kernel_rfl
theorem zer_104 : zer Try.prog 104 = some [Go.Value.nilFunc] := by kernel_rfl
theorem tyc_105 : tyc Try.prog 105 = some (true, 3) := by kernel_rfl
theorem zer_105 : zer Try.prog 105 = some [Go.Value.slice none 0 0, Go.Value.int Go.IntKind.i64 0, Go.Value.int Go.IntKind.i64 0] := by kernel_rfl
theorem zds_105 : zds Try.prog 105 = some [.v (Go.Value.slice none 0 0), .v (Go.Value.int Go.IntKind.i64 0), .v (Go.Value.int Go.IntKind.i64 0)] := by kernel_rfl
theorem fld_105_0 : fld Try.prog 105 0 = some (0, 67) := by kernel_rfl
theorem stf_105 : stf Try.prog 105 = some [(0, 3)] := by kernel_rfl
theorem arr_105 : arr Try.prog 105 = none := by kernel_rfl
theorem apf_105 : apf Try.prog 105 = some (3, 40) := by kernel_rfl
theorem tyc_106 : tyc Try.prog 106 = some (true, 3) := by kernel_rfl
theorem zer_106 : zer Try.prog 106 = some [Go.Value.slice none 0 0, Go.Value.int Go.IntKind.i64 0, Go.Value.int Go.IntKind.i64 0] := by kernel_rfl
theorem zds_106 : zds Try.prog 106 = some [.v (Go.Value.slice none 0 0), .v (Go.Value.int Go.IntKind.i64 0), .v (Go.Value.int Go.IntKind.i64 0)] := by kernel_rfl
theorem fld_106_0 : fld Try.prog 106 0 = some (0, 67) := by kernel_rfl
theorem stf_106 : stf Try.prog 106 = some [(0, 3)] := by kernel_rfl
theorem arr_106 : arr Try.prog 106 = none := by kernel_rfl
theorem apf_106 : apf Try.prog 106 = some (3, 40) := by kernel_rfl
theorem tyc_108 : tyc Try.prog 108 = some (false, 1) := by kernel_rfl
theorem zer_108 : zer Try.prog 108 = some [Go.Value.nilFunc] := by kernel_rfl
theorem tyc_109 : tyc Try.prog 109 = some (false, 1) := by kernel_rfl
theorem zer_109 : zer Try.prog 109 = some [Go.Value.nilFunc] := by kernel_rfl
theorem tyc_110 : tyc Try.prog 110 = some (false, 1) := by kernel_rfl
theorem zer_110 : zer Try.prog 110 = some [Go.Value.nilFunc] := by kernel_rfl
theorem tyc_111 : tyc Try.prog 111 = some (false, 1) := by kernel_rfl
theorem zer_111 : zer Try.prog 111 = some [Go.Value.nilFunc] := by kernel_rfl
theorem tyc_112 : tyc Try.prog 112 = some (false, 1) := by kernel_rfl
theorem zer_112 : zer Try.prog 112 = some [Go.Value.nilFunc] := by kernel_rfl
theorem tyc_113 : tyc Try.prog 113 = some (false, 1) := by kernel_rfl
theorem zer_113 : zer Try.prog 113 = some [Go.Value.nilFunc] := by kernel_rfl
theorem tyc_114 : tyc Try.prog 114 = some (false, 1) := by kernel_rfl
theorem zer_114 : zer Try.prog 114 = some [Go.Value.nilFunc] := by kernel_rfl
theorem tyc_115 : tyc Try.prog 115 = some (false, 1) := by kernel_rfl
theorem zer_115 : zer Try.prog 115 = some [Go.Value.nilFunc] := by kernel_rfl
theorem tyc_116 : tyc Try.prog 116 = some (false, 1) := by kernel_rfl
theorem zer_116 : zer Try.prog 116 = some [Go.Value.nilFunc] := by kernel_rfl
theorem tyc_117 : tyc Try.prog 117 = some (false, 1) := by kernel_rfl
theorem zer_117 : zer Try.prog 117 = some [Go.Value.nilFunc] := by kernel_rfl
theorem tyc_118 : tyc Try.prog 118 = some (false, 1) := by kernel_rfl
theorem zer_118 : zer Try.prog 118 = some [Go.Value.nilFunc] := by kernel_rfl
theorem tyc_119 : tyc Try.prog 119 = some (true, 21) := by kernel_rfl
theorem zer_119 : zer Try.prog 119 = some [Go.Value.int Go.IntKind.i64 0, Go.Value.int Go.IntKind.i64 0, Go.Value.int Go.IntKind.i64 0, Go.Value.int Go.IntKind.i64 0, Go.Value.int Go.IntKind.i64 0, Go.Value.int Go.IntKind.i64 0, Go.Value.int Go.IntKind.i64 0, Go.Value.int Go.IntKind.i64 0, Go.Value.int Go.IntKind.i64 0, Go.Value.int Go.IntKind.i64 0, Go.Value.int Go.IntKind.i64 0, Go.Value.int Go.IntKind.i64 0, Go.Value.int Go.IntKind.i64 0, Go.Value.int Go.IntKind.i64 0, Go.Value.int Go.IntKind.i64 0, Go.Value.int Go.IntKind.i64 0, Go.Value.int Go.IntKind.i64 0, Go.Value.int Go.IntKind.i64 0, Go.Value.int Go.IntKind.i64 0, Go.Value.int Go.IntKind.i64 0, Go.Value.int Go.IntKind.i64 0] := by kernel_rfl
theorem zds_119 : zds Try.prog 119 = some [.v (Go.Value.int Go.IntKind.i64 0), .v (Go.Value.int Go.IntKind.i64 0), .v (Go.Value.int Go.IntKind.i64 0), .v (Go.Value.int Go.IntKind.i64 0), .v (Go.Value.int Go.IntKind.i64 0), .v (Go.Value.int Go.IntKind.i64 0), .v (Go.Value.int Go.IntKind.i64 0), .v (Go.Value.int Go.IntKind.i64 0), .v (Go.Value.int Go.IntKind.i64 0), .v (Go.Value.int Go.IntKind.i64 0), .v (Go.Value.int Go.IntKind.i64 0), .v (Go.Value.int Go.IntKind.i64 0), .v (Go.Value.int Go.IntKind.i64 0), .v (Go.Value.int Go.IntKind.i64 0), .v (Go.Value.int Go.IntKind.i64 0), .v (Go.Value.int Go.IntKind.i64 0), .v (Go.Value.int Go.IntKind.i64 0), .v (Go.Value.int Go.IntKind.i64 0), .v (Go.Value.int Go.IntKind.i64 0), .v (Go.Value.int Go.IntKind.i64 0), .v (Go.Value.int Go.IntKind.i64 0)] := by kernel_rfl
theorem arr_119 : arr Try.prog 119 = some (3, 90, 7) := by kernel_rfl
theorem stf_119 : stf Try.prog 119 = none := by kernel_rfl
theorem apf_119 : apf Try.prog 119 = some (21, 168) := by kernel_rfl
theorem tyc_120 : tyc Try.prog 120 = some (true, 21) := by kernel_rfl
theorem zer_120 : zer Try.prog 120 = some [Go.Value.int Go.IntKind.i64 0, Go.Value.int Go.IntKind.i64 0, Go.Value.int Go.IntKind.i64 0, Go.Value.int Go.IntKind.i64 0, Go.Value.int Go.IntKind.i64 0, Go.Value.int Go.IntKind.i64 0, Go.Value.int Go.IntKind.i64 0, Go.Value.int Go.IntKind.i64 0, Go.Value.int Go.IntKind.i64 0, Go.Value.int Go.IntKind.i64 0, Go.Value.int Go.IntKind.i64 0, Go.Value.int Go.IntKind.i64 0, Go.Value.int Go.IntKind.i64 0, Go.Value.int Go.IntKind.i64 0, Go.Value.int Go.IntKind.i64 0, Go.Value.int Go.IntKind.i64 0, Go.Value.int Go.IntKind.i64 0, Go.Value.int Go.IntKind.i64 0, Go.Value.int Go.IntKind.i64 0, Go.Value.int Go.IntKind.i64 0, Go.Value.int Go.IntKind.i64 0] := by kernel_rfl
theorem zds_120 : zds Try.prog 120 = some [.v (Go.Value.int Go.IntKind.i64 0), .v (Go.Value.int Go.IntKind.i64 0), .v (Go.Value.int Go.IntKind.i64 0), .v (Go.Value.int Go.IntKind.i64 0), .v (Go.Value.int Go.IntKind.i64 0), .v (Go.Value.int Go.IntKind.i64 0), .v (Go.Value.int Go.IntKind.i64 0), .v (Go.Value.int Go.IntKind.i64 0), .v (Go.Value.int Go.IntKind.i64 0), .v (Go.Value.int Go.IntKind.i64 0), .v (Go.Value.int Go.IntKind.i64 0), .v (Go.Value.int Go.IntKind.i64 0), .v (Go.Value.int Go.IntKind.i64 0), .v (Go.Value.int Go.IntKind.i64 0), .v (Go.Value.int Go.IntKind.i64 0), .v (Go.Value.int Go.IntKind.i64 0), .v (Go.Value.int Go.IntKind.i64 0), .v (Go.Value.int Go.IntKind.i64 0), .v (Go.Value.int Go.IntKind.i64 0), .v (Go.Value.int Go.IntKind.i64 0), .v (Go.Value.int Go.IntKind.i64 0)] := by kernel_rfl
theorem arr_120 : arr Try.prog 120 = some (3, 90, 7) := by kernel_rfl
theorem stf_120 : stf Try.prog 120 = none := by kernel_rfl
theorem apf_120 : apf Try.prog 120 = some (21, 168) := by kernel_rfl
theorem tyc_121 : tyc Try.prog 121 = some (false, 1) := by kernel_rfl
theorem zer_121 : zer Try.prog 121 = some [Go.Value.nilFunc] := by kernel_rfl
theorem tyc_122 : tyc Try.prog 122 = some (false, 1) := by kernel_rfl
theorem zer_122 : zer Try.prog 122 = some [Go.Value.nilFunc] := by kernel_rfl
theorem tyc_123 : tyc Try.prog 123 = some (true, 2) := by kernel_rfl
theorem zer_123 : zer Try.prog 123 = some [Go.Value.bool false, Go.Value.int Go.IntKind.i64 0] := by kernel_rfl
theorem zds_123 : zds Try.prog 123 = some [.v (Go.Value.bool false), .v (Go.Value.int Go.IntKind.i64 0)] := by kernel_rfl
theorem fld_123_0 : fld Try.prog 123 0 = some (0, 4) := by kernel_rfl
theorem fld_123_1 : fld Try.prog 123 1 = some (1, 42) := by kernel_rfl
theorem stf_123 : stf Try.prog 123 = some [(0, 1), (1, 1)] := by kernel_rfl
theorem arr_123 : arr Try.prog 123 = none := by kernel_rfl
theorem apf_123 : apf Try.prog 123 = some (2, 16) := by kernel_rfl
theorem tyc_124 : tyc Try.prog 124 = some (false, 1) := by kernel_rfl
theorem zer_124 : zer Try.prog 124 = some [Go.Value.nilFunc] := by kernel_rfl
theorem tyc_125 : tyc Try.prog 125 = some (false, 1) := by kernel_rfl
theorem zer_125 : zer Try.prog 125 = some [Go.Value.nilFunc] := by kernel_rfl
theorem tyc_126 : tyc Try.prog 126 = some (false, 1) := by kernel_rfl
theorem zer_126 : zer Try.prog 126 = some [Go.Value.nilFunc] := by kernel_rfl
theorem tyc_127 : tyc Try.prog 127 = some (false, 1) := by kernel_rfl
theorem zer_127 : zer Try.prog 127 = some [Go.Value.nilFunc] := by kernel_rfl
theorem tyc_128 : tyc Try.prog 128 = some (false, 1) := by kernel_rfl
theorem zer_128 : zer Try.prog 128 = some [Go.Value.nilFunc] := by kernel_rfl
theorem tyc_129 : tyc Try.prog 129 = some (true, 12) := by kernel_rfl
theorem zer_129 : zer Try.prog 129 = some [Go.Value.bool false, Go.Value.int Go.IntKind.i64 0, Go.Value.bool false, Go.Value.int Go.IntKind.i64 0, Go.Value.bool false, Go.Value.int Go.IntKind.i64 0, Go.Value.bool false, Go.Value.int Go.IntKind.i64 0, Go.Value.bool false, Go.Value.int Go.IntKind.i64 0, Go.Value.bool false, Go.Value.int Go.IntKind.i64 0] := by kernel_rfl
theorem zds_129 : zds Try.prog 129 = some [.v (Go.Value.bool false), .v (Go.Value.int Go.IntKind.i64 0), .v (Go.Value.bool false), .v (Go.Value.int Go.IntKind.i64 0), .v (Go.Value.bool false), .v (Go.Value.int Go.IntKind.i64 0), .v (Go.Value.bool false), .v (Go.Value.int Go.IntKind.i64 0), .v (Go.Value.bool false), .v (Go.Value.int Go.IntKind.i64 0), .v (Go.Value.bool false), .v (Go.Value.int Go.IntKind.i64 0)] := by kernel_rfl
theorem arr_129 : arr Try.prog 129 = some (6, 123, 2) := by kernel_rfl
theorem stf_129 : stf Try.prog 129 = none := by kernel_rfl
theorem apf_129 : apf Try.prog 129 = some (12, 96) := by kernel_rfl
theorem tyc_130 : tyc Try.prog 130 = some (false, 1) := by kernel_rfl
theorem zer_130 : zer Try.prog 130 = some [Go.Value.nilFunc] := by kernel_rfl
theorem tyc_131 : tyc Try.prog 131 = some (false, 1) := by kernel_rfl
theorem zer_131 : zer Try.prog 131 = some [Go.Value.nilFunc] := by kernel_rfl
theorem tyc_132 : tyc Try.prog 132 = some (false, 1) := by kernel_rfl
theorem zer_132 : zer Try.prog 132 = some [Go.Value.nilFunc] := by kernel_rfl
theorem tyc_133 : tyc Try.prog 133 = some (false, 1) := by kernel_rfl
theorem zer_133 : zer Try.prog 133 = some [Go.Value.nilFunc] := by kernel_rfl
theorem tyc_134 : tyc Try.prog 134 = some (false, 1) := by kernel_rfl
theorem zer_134 : zer Try.prog 134 = some [Go.Value.nilFunc] := by kernel_rfl
theorem tyc_135 : tyc Try.prog 135 = some (false, 1) := by kernel_rfl
theorem zer_135 : zer Try.prog 135 = some [Go.Value.nilFunc] := by kernel_rfl
theorem tyc_136 : tyc Try.prog 136 = some (false, 1) := by kernel_rfl
theorem zer_136 : zer Try.prog 136 = some [Go.Value.nilFunc] := by kernel_rfl
theorem tyc_137 : tyc Try.prog 137 = some (false, 1) := by kernel_rfl
theorem zer_137 : zer Try.prog 137 = some [Go.Value.nilFunc] := by kernel_rfl
theorem tyc_138 : tyc Try.prog 138 = some (false, 1) := by kernel_rfl
theorem zer_138 : zer Try.prog 138 = some [Go.Value.nilFunc] := by kernel_rfl
theorem tyc_139 : tyc Try.prog 139 = some (false, 1) := by kernel_rfl
theorem zer_139 : zer Try.prog 139 = some [Go.Value.nilFunc] := by kernel_rfl
theorem tyc_140 : tyc Try.prog 140 = some (false, 1) := by kernel_rfl
theorem zer_140 : zer Try.prog 140 = some [Go.Value.nilFunc] := by kernel_rfl
theorem tyc_141 : tyc Try.prog 141 = some (false, 1) := by kernel_rfl
theorem zer_141 : zer Try.prog 141 = some [Go.Value.nilFunc] := by kernel_rfl
theorem tyc_142 : tyc Try.prog 142 = some (false, 1) := by kernel_rfl
theorem zer_142 : zer Try.prog 142 = some [Go.Value.nilFunc] := by kernel_rfl
theorem tyc_143 : tyc Try.prog 143 = some (false, 1) := by kernel_rfl
theorem zer_143 : zer Try.prog 143 = some [Go.Value.nilFunc] := by kernel_rfl
theorem tyc_144 : tyc Try.prog 144 = some (true, 4) := by kernel_rfl
theorem zer_144 : zer Try.prog 144 = some [Go.Value.pointer none, Go.Value.pointer none, Go.Value.pointer none, Go.Value.string { data := #[] }] := by kernel_rfl
theorem zds_144 : zds Try.prog 144 = some [.v (Go.Value.pointer none), .v (Go.Value.pointer none), .v (Go.Value.pointer none), .v (Go.Value.string { data := #[] })] := by kernel_rfl
theorem fld_144_0 : fld Try.prog 144 0 = some (0, 17) := by kernel_rfl
theorem fld_144_1 : fld Try.prog 144 1 = some (1, 17) := by kernel_rfl
theorem fld_144_2 : fld Try.prog 144 2 = some (2, 17) := by kernel_rfl
theorem fld_144_3 : fld Try.prog 144 3 = some (3, 9) := by kernel_rfl
theorem stf_144 : stf Try.prog 144 = some [(0, 1), (1, 1), (2, 1), (3, 1)] := by kernel_rfl
theorem arr_144 : arr Try.prog 144 = none := by kernel_rfl
theorem apf_144 : apf Try.prog 144 = some (4, 40) := by kernel_rfl
theorem tyc_145 : tyc Try.prog 145 = some (true, 4) := by kernel_rfl
theorem zer_145 : zer Try.prog 145 = some [Go.Value.pointer none, Go.Value.pointer none, Go.Value.pointer none, Go.Value.string { data := #[] }] := by kernel_rfl
theorem zds_145 : zds Try.prog 145 = some [.v (Go.Value.pointer none), .v (Go.Value.pointer none), .v (Go.Value.pointer none), .v (Go.Value.string { data := #[] })] := by kernel_rfl
theorem fld_145_0 : fld Try.prog 145 0 = some (0, 17) := by kernel_rfl
theorem fld_145_1 : fld Try.prog 145 1 = some (1, 17) := by kernel_rfl
theorem fld_145_2 : fld Try.prog 145 2 = some (2, 17) := by kernel_rfl
theorem fld_145_3 : fld Try.prog 145 3 = some (3, 9) := by kernel_rfl
theorem stf_145 : stf Try.prog 145 = some [(0, 1), (1, 1), (2, 1), (3, 1)] := by kernel_rfl
theorem arr_145 : arr Try.prog 145 = none := by kernel_rfl
theorem apf_145 : apf Try.prog 145 = some (4, 40) := by kernel_rfl
theorem tyc_146 : tyc Try.prog 146 = some (true, 0) := by kernel_rfl
theorem zer_146 : zer Try.prog 146 = some [] := by kernel_rfl
theorem zds_146 : zds Try.prog 146 = some [] := by kernel_rfl
theorem arr_146 : arr Try.prog 146 = some (0, 16, 1) := by kernel_rfl
theorem stf_146 : stf Try.prog 146 = none := by kernel_rfl
theorem tyc_147 : tyc Try.prog 147 = some (true, 0) := by kernel_rfl
theorem zer_147 : zer Try.prog 147 = some [] := by kernel_rfl
theorem zds_147 : zds Try.prog 147 = some [] := by kernel_rfl
theorem stf_147 : stf Try.prog 147 = some [(0, 0)] := by kernel_rfl
theorem arr_147 : arr Try.prog 147 = none := by kernel_rfl
theorem tyc_148 : tyc Try.prog 148 = some (true, 0) := by kernel_rfl
theorem zer_148 : zer Try.prog 148 = some [] := by kernel_rfl
theorem zds_148 : zds Try.prog 148 = some [] := by kernel_rfl
theorem stf_148 : stf Try.prog 148 = some [(0, 0)] := by kernel_rfl
theorem arr_148 : arr Try.prog 148 = none := by kernel_rfl
theorem tyc_149 : tyc Try.prog 149 = some (false, 1) := by kernel_rfl
theorem zer_149 : zer Try.prog 149 = some [Go.Value.int Go.IntKind.u32 0] := by kernel_rfl
theorem zds_149 : zds Try.prog 149 = some [.v (Go.Value.int Go.IntKind.u32 0)] := by kernel_rfl
theorem und_149 : Try.prog.underlying 149 = some (.int .u32) := by kernel_rfl
theorem apf_149 : apf Try.prog 149 = some (1, 4) := by kernel_rfl
theorem tyc_150 : tyc Try.prog 150 = some (false, 1) := by kernel_rfl
theorem zer_150 : zer Try.prog 150 = some [Go.Value.int Go.IntKind.u8 0] := by kernel_rfl
theorem zds_150 : zds Try.prog 150 = some [.v (Go.Value.int Go.IntKind.u8 0)] := by kernel_rfl
theorem und_150 : Try.prog.underlying 150 = some (.int .u8) := by kernel_rfl
theorem apf_150 : apf Try.prog 150 = some (1, 1) := by kernel_rfl
theorem tyc_151 : tyc Try.prog 151 = some (false, 1) := by kernel_rfl
theorem zer_151 : zer Try.prog 151 = some [Go.Value.int Go.IntKind.u8 0] := by kernel_rfl
theorem zds_151 : zds Try.prog 151 = some [.v (Go.Value.int Go.IntKind.u8 0)] := by kernel_rfl
theorem und_151 : Try.prog.underlying 151 = some (.int .u8) := by kernel_rfl
theorem apf_151 : apf Try.prog 151 = some (1, 1) := by kernel_rfl
theorem tyc_152 : tyc Try.prog 152 = some (false, 1) := by kernel_rfl
theorem zer_152 : zer Try.prog 152 = some [Go.Value.nilFunc] := by kernel_rfl
theorem tyc_153 : tyc Try.prog 153 = some (false, 1) := by kernel_rfl
theorem zer_153 : zer Try.prog 153 = some [Go.Value.pointer none] := by kernel_rfl
theorem zds_153 : zds Try.prog 153 = some [.v (Go.Value.pointer none)] := by kernel_rfl
theorem apf_153 : apf Try.prog 153 = some (1, 8) := by kernel_rfl
theorem tyc_154 : tyc Try.prog 154 = some (false, 1) := by kernel_rfl
theorem zer_154 : zer Try.prog 154 = some [Go.Value.int Go.IntKind.i32 0] := by kernel_rfl
theorem zds_154 : zds Try.prog 154 = some [.v (Go.Value.int Go.IntKind.i32 0)] := by kernel_rfl
theorem und_154 : Try.prog.underlying 154 = some (.int .i32) := by kernel_rfl
theorem apf_154 : apf Try.prog 154 = some (1, 4) := by kernel_rfl
theorem tyc_155 : tyc Try.prog 155 = some (false, 1) := by kernel_rfl
theorem zer_155 : zer Try.prog 155 = some [Go.Value.int Go.IntKind.i32 0] := by kernel_rfl
theorem zds_155 : zds Try.prog 155 = some [.v (Go.Value.int Go.IntKind.i32 0)] := by kernel_rfl
theorem und_155 : Try.prog.underlying 155 = some (.int .i32) := by kernel_rfl
theorem apf_155 : apf Try.prog 155 = some (1, 4) := by kernel_rfl
theorem tyc_156 : tyc Try.prog 156 = some (true, 11) := by kernel_rfl
theorem zer_156 : zer Try.prog 156 = some [Go.Value.int Go.IntKind.u64 0, Go.Value.int Go.IntKind.u64 0, Go.Value.int Go.IntKind.u32 0, Go.Value.int Go.IntKind.u8 0, Go.Value.int Go.IntKind.u8 0, Go.Value.int Go.IntKind.u8 0, Go.Value.int Go.IntKind.u8 0, Go.Value.nilFunc, Go.Value.pointer none, Go.Value.int Go.IntKind.i32 0, Go.Value.int Go.IntKind.i32 0] := by kernel_rfl
theorem zds_156 : zds Try.prog 156 = some [.v (Go.Value.int Go.IntKind.u64 0), .v (Go.Value.int Go.IntKind.u64 0), .v (Go.Value.int Go.IntKind.u32 0), .v (Go.Value.int Go.IntKind.u8 0), .v (Go.Value.int Go.IntKind.u8 0), .v (Go.Value.int Go.IntKind.u8 0), .v (Go.Value.int Go.IntKind.u8 0), .v (Go.Value.nilFunc), .v (Go.Value.pointer none), .v (Go.Value.int Go.IntKind.i32 0), .v (Go.Value.int Go.IntKind.i32 0)] := by kernel_rfl
theorem fld_156_0 : fld Try.prog 156 0 = some (0, 12) := by kernel_rfl
theorem fld_156_1 : fld Try.prog 156 1 = some (1, 12) := by kernel_rfl
theorem fld_156_2 : fld Try.prog 156 2 = some (2, 149) := by kernel_rfl
theorem fld_156_3 : fld Try.prog 156 3 = some (3, 150) := by kernel_rfl
theorem fld_156_4 : fld Try.prog 156 4 = some (4, 5) := by kernel_rfl
theorem fld_156_5 : fld Try.prog 156 5 = some (5, 5) := by kernel_rfl
theorem fld_156_6 : fld Try.prog 156 6 = some (6, 151) := by kernel_rfl
theorem fld_156_7 : fld Try.prog 156 7 = some (7, 152) := by kernel_rfl
theorem fld_156_8 : fld Try.prog 156 8 = some (8, 153) := by kernel_rfl
theorem fld_156_9 : fld Try.prog 156 9 = some (9, 154) := by kernel_rfl
theorem fld_156_10 : fld Try.prog 156 10 = some (10, 155) := by kernel_rfl
theorem stf_156 : stf Try.prog 156 = some [(0, 1), (1, 1), (2, 1), (3, 1), (4, 1), (5, 1), (6, 1), (7, 1), (8, 1), (9, 1), (10, 1)] := by kernel_rfl
theorem arr_156 : arr Try.prog 156 = none := by kernel_rfl
theorem apf_156 : apf Try.prog 156 = some (11, 48) := by kernel_rfl
theorem tyc_157 : tyc Try.prog 157 = some (true, 11) := by kernel_rfl
theorem zer_157 : zer Try.prog 157 = some [Go.Value.int Go.IntKind.u64 0, Go.Value.int Go.IntKind.u64 0, Go.Value.int Go.IntKind.u32 0, Go.Value.int Go.IntKind.u8 0, Go.Value.int Go.IntKind.u8 0, Go.Value.int Go.IntKind.u8 0, Go.Value.int Go.IntKind.u8 0, Go.Value.nilFunc, Go.Value.pointer none, Go.Value.int Go.IntKind.i32 0, Go.Value.int Go.IntKind.i32 0] := by kernel_rfl
theorem zds_157 : zds Try.prog 157 = some [.v (Go.Value.int Go.IntKind.u64 0), .v (Go.Value.int Go.IntKind.u64 0), .v (Go.Value.int Go.IntKind.u32 0), .v (Go.Value.int Go.IntKind.u8 0), .v (Go.Value.int Go.IntKind.u8 0), .v (Go.Value.int Go.IntKind.u8 0), .v (Go.Value.int Go.IntKind.u8 0), .v (Go.Value.nilFunc), .v (Go.Value.pointer none), .v (Go.Value.int Go.IntKind.i32 0), .v (Go.Value.int Go.IntKind.i32 0)] := by kernel_rfl
theorem fld_157_0 : fld Try.prog 157 0 = some (0, 12) := by kernel_rfl
theorem fld_157_1 : fld Try.prog 157 1 = some (1, 12) := by kernel_rfl
theorem fld_157_2 : fld Try.prog 157 2 = some (2, 149) := by kernel_rfl
theorem fld_157_3 : fld Try.prog 157 3 = some (3, 150) := by kernel_rfl
theorem fld_157_4 : fld Try.prog 157 4 = some (4, 5) := by kernel_rfl
theorem fld_157_5 : fld Try.prog 157 5 = some (5, 5) := by kernel_rfl
theorem fld_157_6 : fld Try.prog 157 6 = some (6, 151) := by kernel_rfl
theorem fld_157_7 : fld Try.prog 157 7 = some (7, 152) := by kernel_rfl
theorem fld_157_8 : fld Try.prog 157 8 = some (8, 153) := by kernel_rfl
theorem fld_157_9 : fld Try.prog 157 9 = some (9, 154) := by kernel_rfl
theorem fld_157_10 : fld Try.prog 157 10 = some (10, 155) := by kernel_rfl
theorem stf_157 : stf Try.prog 157 = some [(0, 1), (1, 1), (2, 1), (3, 1), (4, 1), (5, 1), (6, 1), (7, 1), (8, 1), (9, 1), (10, 1)] := by kernel_rfl
theorem arr_157 : arr Try.prog 157 = none := by kernel_rfl
theorem apf_157 : apf Try.prog 157 = some (11, 48) := by kernel_rfl
theorem fun_4 : Try.prog.funcs[4]? = some Try.f4 := by kernel_rfl
theorem fun_5 : Try.prog.funcs[5]? = some Try.f5 := by kernel_rfl
theorem fun_6 : Try.prog.funcs[6]? = some Try.f6 := by kernel_rfl
theorem fun_8 : Try.prog.funcs[8]? = some Try.f8 := by kernel_rfl
theorem fun_9 : Try.prog.funcs[9]? = some Try.f9 := by kernel_rfl
theorem fun_10 : Try.prog.funcs[10]? = some Try.f10 := by kernel_rfl
theorem fun_12 : Try.prog.funcs[12]? = some Try.f12 := by kernel_rfl
theorem fun_13 : Try.prog.funcs[13]? = some Try.f13 := by kernel_rfl
theorem fun_14 : Try.prog.funcs[14]? = some Try.f14 := by kernel_rfl
theorem fun_15 : Try.prog.funcs[15]? = some Try.f15 := by kernel_rfl
theorem fun_16 : Try.prog.funcs[16]? = some Try.f16 := by kernel_rfl
theorem fun_18 : Try.prog.funcs[18]? = some Try.f18 := by kernel_rfl
theorem fun_20 : Try.prog.funcs[20]? = some Try.f20 := by kernel_rfl
theorem fun_21 : Try.prog.funcs[21]? = some Try.f21 := by kernel_rfl
theorem fun_22 : Try.prog.funcs[22]? = some Try.f22 := by kernel_rfl
theorem fun_23 : Try.prog.funcs[23]? = some Try.f23 := by kernel_rfl
theorem fun_24 : Try.prog.funcs[24]? = some Try.f24 := by kernel_rfl
theorem fun_25 : Try.prog.funcs[25]? = some Try.f25 := by kernel_rfl
theorem fun_26 : Try.prog.funcs[26]? = some Try.f26 := by kernel_rfl
theorem fun_28 : Try.prog.funcs[28]? = some Try.f28 := by kernel_rfl
theorem fun_29 : Try.prog.funcs[29]? = some Try.f29 := by kernel_rfl
theorem fun_30 : Try.prog.funcs[30]? = some Try.f30 := by kernel_rfl
theorem fun_32 : Try.prog.funcs[32]? = some Try.f32 := by kernel_rfl
theorem fun_33 : Try.prog.funcs[33]? = some Try.f33 := by kernel_rfl
theorem fun_34 : Try.prog.funcs[34]? = some Try.f34 := by kernel_rfl
theorem fun_35 : Try.prog.funcs[35]? = some Try.f35 := by kernel_rfl
theorem fun_36 : Try.prog.funcs[36]? = some Try.f36 := by kernel_rfl
theorem fun_37 : Try.prog.funcs[37]? = some Try.f37 := by kernel_rfl
theorem fun_38 : Try.prog.funcs[38]? = some Try.f38 := by kernel_rfl
theorem fun_39 : Try.prog.funcs[39]? = some Try.f39 := by kernel_rfl
theorem fun_42 : Try.prog.funcs[42]? = some Try.f42 := by kernel_rfl
theorem fun_43 : Try.prog.funcs[43]? = some Try.f43 := by kernel_rfl
theorem fun_44 : Try.prog.funcs[44]? = some Try.f44 := by kernel_rfl
theorem fun_45 : Try.prog.funcs[45]? = some Try.f45 := by kernel_rfl
theorem fun_46 : Try.prog.funcs[46]? = some Try.f46 := by kernel_rfl
theorem fun_47 : Try.prog.funcs[47]? = some Try.f47 := by kernel_rfl
theorem fun_48 : Try.prog.funcs[48]? = some Try.f48 := by kernel_rfl
theorem fun_49 : Try.prog.funcs[49]? = some Try.f49 := by kernel_rfl
theorem fun_50 : Try.prog.funcs[50]? = some Try.f50 := by kernel_rfl
theorem fun_51 : Try.prog.funcs[51]? = some Try.f51 := by kernel_rfl
theorem fun_52 : Try.prog.funcs[52]? = some Try.f52 := by kernel_rfl
theorem fun_53 : Try.prog.funcs[53]? = some Try.f53 := by kernel_rfl
theorem fun_54 : Try.prog.funcs[54]? = some Try.f54 := by kernel_rfl
theorem fun_55 : Try.prog.funcs[55]? = some Try.f55 := by kernel_rfl
theorem fun_56 : Try.prog.funcs[56]? = some Try.f56 := by kernel_rfl
theorem fun_57 : Try.prog.funcs[57]? = some Try.f57 := by kernel_rfl
theorem fun_58 : Try.prog.funcs[58]? = some Try.f58 := by kernel_rfl
theorem fun_59 : Try.prog.funcs[59]? = some Try.f59 := by kernel_rfl
theorem fun_60 : Try.prog.funcs[60]? = some Try.f60 := by kernel_rfl
theorem fun_61 : Try.prog.funcs[61]? = some Try.f61 := by kernel_rfl
theorem fun_62 : Try.prog.funcs[62]? = some Try.f62 := by kernel_rfl
theorem fun_63 : Try.prog.funcs[63]? = some Try.f63 := by kernel_rfl
theorem fun_64 : Try.prog.funcs[64]? = some Try.f64 := by kernel_rfl
theorem fun_66 : Try.prog.funcs[66]? = some Try.f66 := by kernel_rfl
theorem fun_67 : Try.prog.funcs[67]? = some Try.f67 := by kernel_rfl
theorem fun_68 : Try.prog.funcs[68]? = some Try.f68 := by kernel_rfl
theorem fun_69 : Try.prog.funcs[69]? = some Try.f69 := by kernel_rfl
theorem fun_70 : Try.prog.funcs[70]? = some Try.f70 := by kernel_rfl
theorem fun_71 : Try.prog.funcs[71]? = some Try.f71 := by kernel_rfl
theorem fun_72 : Try.prog.funcs[72]? = some Try.f72 := by kernel_rfl
theorem fun_73 : Try.prog.funcs[73]? = some Try.f73 := by kernel_rfl
theorem fun_74 : Try.prog.funcs[74]? = some Try.f74 := by kernel_rfl
theorem fun_75 : Try.prog.funcs[75]? = some Try.f75 := by kernel_rfl
theorem fun_76 : Try.prog.funcs[76]? = some Try.f76 := by kernel_rfl
theorem fun_77 : Try.prog.funcs[77]? = some Try.f77 := by kernel_rfl
def fA0 := (And.intro (And.intro (And.intro (And.intro (And.intro (And.intro (And.intro (And.intro (And.intro @tyc_1 @zer_1) (And.intro @tyc_2 (And.intro @zer_2 @zds_2))) (And.intro (And.intro @und_2 @apf_2) (And.intro @tyc_3 (And.intro @zer_3 @zds_3)))) (And.intro (And.intro (And.intro @und_3 @apf_3) (And.intro @tyc_4 (And.intro @zer_4 @zds_4))) (And.intro (And.intro @und_4 (And.intro @apf_4 @tyc_5)) (And.intro @zer_5 (And.intro @zds_5 @und_5))))) (And.intro (And.intro (And.intro (And.intro @apf_5 @tyc_6) (And.intro @zer_6 (And.intro @zds_6 @und_6))) (And.intro (And.intro @apf_6 (And.intro @tyc_7 @zer_7)) (And.intro @zds_7 (And.intro @fld_7_0 @fld_7_1)))) (And.intro (And.intro (And.intro @fld_7_2 @fld_7_3) (And.intro @stf_7 (And.intro @arr_7 @apf_7))) (And.intro (And.intro @tyc_8 (And.intro @zer_8 @zds_8)) (And.intro @fld_8_0 (And.intro @fld_8_1 @fld_8_2)))))) (And.intro (And.intro (And.intro (And.intro (And.intro @fld_8_3 @stf_8) (And.intro @arr_8 (And.intro @apf_8 @tyc_9))) (And.intro (And.intro @zer_9 @zds_9) (And.intro @apf_9 (And.intro @tyc_10 @zer_10)))) (And.intro (And.intro (And.intro @zds_10 @apf_10) (And.intro @tyc_11 (And.intro @zer_11 @zds_11))) (And.intro (And.intro @apf_11 (And.intro @tyc_12 @zer_12)) (And.intro @zds_12 (And.intro @und_12 @apf_12))))) (And.intro (And.intro (And.intro (And.intro @tyc_13 @zer_13) (And.intro @zds_13 (And.intro @fld_13_0 @fld_13_1))) (And.intro (And.intro @stf_13 (And.intro @arr_13 @apf_13)) (And.intro @tyc_14 (And.intro @zer_14 @zds_14)))) (And.intro (And.intro (And.intro @fld_14_0 @fld_14_1) (And.intro @stf_14 (And.intro @arr_14 @apf_14))) (And.intro (And.intro @tyc_15 (And.intro @zer_15 @zds_15)) (And.intro @apf_15 (And.intro @tyc_16 @zer_16))))))) (And.intro (And.intro (And.intro (And.intro (And.intro (And.intro @zds_16 @apf_16) (And.intro @tyc_17 (And.intro @zer_17 @zds_17))) (And.intro (And.intro @apf_17 @tyc_18) (And.intro @zer_18 (And.intro @zds_18 @fld_18_0)))) (And.intro (And.intro (And.intro @stf_18 @arr_18) (And.intro @apf_18 (And.intro @tyc_19 @zer_19))) (And.intro (And.intro @zds_19 (And.intro @fld_19_0 @stf_19)) (And.intro @arr_19 (And.intro @apf_19 @tyc_21))))) (And.intro (And.intro (And.intro (And.intro @zer_21 @zds_21) (And.intro @und_21 (And.intro @apf_21 @tyc_22))) (And.intro (And.intro @zer_22 (And.intro @zds_22 @elt_22)) (And.intro @apf_22 (And.intro @tyc_23 @zer_23)))) (And.intro (And.intro (And.intro @zds_23 @und_23) (And.intro @apf_23 (And.intro @tyc_24 @zer_24))) (And.intro (And.intro @zds_24 (And.intro @elt_24 @apf_24)) (And.intro @tyc_25 (And.intro @zer_25 @zds_25)))))) (And.intro (And.intro (And.intro (And.intro (And.intro @elt_25 @apf_25) (And.intro @tyc_26 (And.intro @zer_26 @zds_26))) (And.intro (And.intro @fld_26_0 (And.intro @fld_26_1 @stf_26)) (And.intro @arr_26 (And.intro @apf_26 @tyc_27)))) (And.intro (And.intro (And.intro @zer_27 @zds_27) (And.intro @fld_27_0 (And.intro @fld_27_1 @stf_27))) (And.intro (And.intro @arr_27 (And.intro @apf_27 @tyc_28)) (And.intro @zer_28 (And.intro @zds_28 @arr_28))))) (And.intro (And.intro (And.intro (And.intro @stf_28 @apf_28) (And.intro @tyc_29 (And.intro @zer_29 @zds_29))) (And.intro (And.intro @arr_29 (And.intro @stf_29 @apf_29)) (And.intro @tyc_30 (And.intro @zer_30 @zds_30)))) (And.intro (And.intro (And.intro @elt_30 @apf_30) (And.intro @tyc_31 (And.intro @zer_31 @zds_31))) (And.intro (And.intro @fld_31_0 (And.intro @stf_31 @arr_31)) (And.intro @apf_31 (And.intro @tyc_32 @zer_32)))))))) (And.intro (And.intro (And.intro (And.intro (And.intro (And.intro (And.intro @zds_32 @fld_32_0) (And.intro @stf_32 (And.intro @arr_32 @apf_32))) (And.intro (And.intro @tyc_33 @zer_33) (And.intro @tyc_34 (And.intro @zer_34 @zds_34)))) (And.intro (And.intro (And.intro @fld_34_0 @fld_34_1) (And.intro @stf_34 (And.intro @arr_34 @apf_34))) (And.intro (And.intro @tyc_35 (And.intro @zer_35 @zds_35)) (And.intro @fld_35_0 (And.intro @fld_35_1 @stf_35))))) (And.intro (And.intro (And.intro (And.intro @arr_35 @apf_35) (And.intro @tyc_36 (And.intro @zer_36 @tyc_37))) (And.intro (And.intro @zer_37 (And.intro @tyc_38 @zer_38)) (And.intro @zds_38 (And.intro @fld_38_0 @fld_38_1)))) (And.intro (And.intro (And.intro @stf_38 @arr_38) (And.intro @apf_38 (And.intro @tyc_39 @zer_39))) (And.intro (And.intro @zds_39 (And.intro @fld_39_0 @fld_39_1)) (And.intro @stf_39 (And.intro @arr_39 @apf_39)))))) (And.intro (And.intro (And.intro (And.intro (And.intro @tyc_40 @zer_40) (And.intro @tyc_41 (And.intro @zer_41 @zds_41))) (And.intro (And.intro @elt_41 @apf_41) (And.intro @tyc_42 (And.intro @zer_42 @zds_42)))) (And.intro (And.intro (And.intro @und_42 @apf_42) (And.intro @tyc_44 (And.intro @zer_44 @tyc_45))) (And.intro (And.intro @zer_45 (And.intro @tyc_47 @zer_47)) (And.intro @tyc_48 (And.intro @zer_48 @tyc_49))))) (And.intro (And.intro (And.intro (And.intro @zer_49 @zds_49) (And.intro @fld_49_0 (And.intro @fld_49_1 @fld_49_2))) (And.intro (And.intro @stf_49 (And.intro @arr_49 @apf_49)) (And.intro @tyc_50 (And.intro @zer_50 @zds_50)))) (And.intro (And.intro (And.intro @fld_50_0 @fld_50_1) (And.intro @fld_50_2 (And.intro @stf_50 @arr_50))) (And.intro (And.intro @apf_50 (And.intro @tyc_51 @zer_51)) (And.intro @zds_51 (And.intro @elt_51 @apf_51))))))) (And.intro (And.intro (And.intro (And.intro (And.intro (And.intro @tyc_52 @zer_52) (And.intro @zds_52 (And.intro @und_52 @apf_52))) (And.intro (And.intro @tyc_53 @zer_53) (And.intro @zds_53 (And.intro @fld_53_0 @fld_53_1)))) (And.intro (And.intro (And.intro @fld_53_2 @fld_53_3) (And.intro @stf_53 (And.intro @arr_53 @apf_53))) (And.intro (And.intro @tyc_54 (And.intro @zer_54 @zds_54)) (And.intro @fld_54_0 (And.intro @fld_54_1 @fld_54_2))))) (And.intro (And.intro (And.intro (And.intro @fld_54_3 @stf_54) (And.intro @arr_54 (And.intro @apf_54 @tyc_55))) (And.intro (And.intro @zer_55 (And.intro @zds_55 @arr_55)) (And.intro @stf_55 (And.intro @apf_55 @tyc_57)))) (And.intro (And.intro (And.intro @zer_57 @tyc_58) (And.intro @zer_58 (And.intro @tyc_59 @zer_59))) (And.intro (And.intro @zds_59 (And.intro @und_59 @apf_59)) (And.intro @tyc_61 (And.intro @zer_61 @tyc_62)))))) (And.intro (And.intro (And.intro (And.intro (And.intro @zer_62 @tyc_63) (And.intro @zer_63 (And.intro @zds_63 @fld_63_0))) (And.intro (And.intro @fld_63_1 (And.intro @stf_63 @arr_63)) (And.intro @apf_63 (And.intro @tyc_64 @zer_64)))) (And.intro (And.intro (And.intro @zds_64 @fld_64_0) (And.intro @fld_64_1 (And.intro @stf_64 @arr_64))) (And.intro (And.intro @apf_64 (And.intro @tyc_65 @zer_65)) (And.intro @zds_65 (And.intro @elt_65 @apf_65))))) (And.intro (And.intro (And.intro (And.intro @tyc_66 @zer_66) (And.intro @zds_66 (And.intro @fld_66_0 @fld_66_1))) (And.intro (And.intro @fld_66_2 (And.intro @stf_66 @arr_66)) (And.intro @apf_66 (And.intro @tyc_67 @zer_67)))) (And.intro (And.intro (And.intro @zds_67 @fld_67_0) (And.intro @fld_67_1 (And.intro @fld_67_2 @stf_67))) (And.intro (And.intro @arr_67 (And.intro @apf_67 @tyc_68)) (And.intro @zer_68 (And.intro @tyc_69 @zer_69))))))))) (And.intro (And.intro (And.intro (And.intro (And.intro (And.intro (And.intro (And.intro @tyc_70 @zer_70) (And.intro @zds_70 (And.intro @fld_70_0 @stf_70))) (And.intro (And.intro @arr_70 @apf_70) (And.intro @tyc_71 (And.intro @zer_71 @zds_71)))) (And.intro (And.intro (And.intro @fld_71_0 @stf_71) (And.intro @arr_71 (And.intro @apf_71 @tyc_72))) (And.intro (And.intro @zer_72 (And.intro @zds_72 @elt_72)) (And.intro @apf_72 (And.intro @tyc_74 @zer_74))))) (And.intro (And.intro (And.intro (And.intro @tyc_75 @zer_75) (And.intro @zds_75 (And.intro @elt_75 @apf_75))) (And.intro (And.intro @tyc_76 (And.intro @zer_76 @tyc_77)) (And.intro @zer_77 (And.intro @zds_77 @fld_77_0)))) (And.intro (And.intro (And.intro @fld_77_1 @stf_77) (And.intro @arr_77 (And.intro @apf_77 @tyc_78))) (And.intro (And.intro @zer_78 (And.intro @zds_78 @fld_78_0)) (And.intro @fld_78_1 (And.intro @stf_78 @arr_78)))))) (And.intro (And.intro (And.intro (And.intro (And.intro @apf_78 @tyc_80) (And.intro @zer_80 (And.intro @tyc_81 @zer_81))) (And.intro (And.intro @tyc_82 @zer_82) (And.intro @tyc_83 (And.intro @zer_83 @tyc_84)))) (And.intro (And.intro (And.intro @zer_84 @zds_84) (And.intro @fld_84_0 (And.intro @fld_84_1 @fld_84_2))) (And.intro (And.intro @fld_84_3 (And.intro @stf_84 @arr_84)) (And.intro @apf_84 (And.intro @tyc_85 @zer_85))))) (And.intro (And.intro (And.intro (And.intro @zds_85 @fld_85_0) (And.intro @fld_85_1 (And.intro @fld_85_2 @fld_85_3))) (And.intro (And.intro @stf_85 (And.intro @arr_85 @apf_85)) (And.intro @tyc_86 (And.intro @zer_86 @tyc_87)))) (And.intro (And.intro (And.intro @zer_87 @zds_87) (And.intro @arr_87 (And.intro @stf_87 @apf_87))) (And.intro (And.intro @tyc_88 (And.intro @zer_88 @zds_88)) (And.intro @arr_88 (And.intro @stf_88 @apf_88))))))) (And.intro (And.intro (And.intro (And.intro (And.intro (And.intro @tyc_89 @zer_89) (And.intro @zds_89 (And.intro @fld_89_0 @fld_89_1))) (And.intro (And.intro @stf_89 @arr_89) (And.intro @apf_89 (And.intro @tyc_90 @zer_90)))) (And.intro (And.intro (And.intro @zds_90 @fld_90_0) (And.intro @fld_90_1 (And.intro @stf_90 @arr_90))) (And.intro (And.intro @apf_90 (And.intro @tyc_91 @zer_91)) (And.intro @tyc_93 (And.intro @zer_93 @tyc_94))))) (And.intro (And.intro (And.intro (And.intro @zer_94 @zds_94) (And.intro @fld_94_0 (And.intro @fld_94_1 @fld_94_2))) (And.intro (And.intro @stf_94 (And.intro @arr_94 @apf_94)) (And.intro @tyc_95 (And.intro @zer_95 @zds_95)))) (And.intro (And.intro (And.intro @fld_95_0 @fld_95_1) (And.intro @fld_95_2 (And.intro @stf_95 @arr_95))) (And.intro (And.intro @apf_95 (And.intro @tyc_96 @zer_96)) (And.intro @tyc_97 (And.intro @zer_97 @tyc_98)))))) (And.intro (And.intro (And.intro (And.intro (And.intro @zer_98 @tyc_99) (And.intro @zer_99 (And.intro @tyc_100 @zer_100))) (And.intro (And.intro @tyc_101 (And.intro @zer_101 @tyc_102)) (And.intro @zer_102 (And.intro @tyc_103 @zer_103)))) (And.intro (And.intro (And.intro @tyc_104 @zer_104) (And.intro @tyc_105 (And.intro @zer_105 @zds_105))) (And.intro (And.intro @fld_105_0 (And.intro @stf_105 @arr_105)) (And.intro @apf_105 (And.intro @tyc_106 @zer_106))))) (And.intro (And.intro (And.intro (And.intro @zds_106 @fld_106_0) (And.intro @stf_106 (And.intro @arr_106 @apf_106))) (And.intro (And.intro @tyc_108 (And.intro @zer_108 @tyc_109)) (And.intro @zer_109 (And.intro @tyc_110 @zer_110)))) (And.intro (And.intro (And.intro @tyc_111 @zer_111) (And.intro @tyc_112 (And.intro @zer_112 @tyc_113))) (And.intro (And.intro @zer_113 (And.intro @tyc_114 @zer_114)) (And.intro @tyc_115 (And.intro @zer_115 @tyc_116)))))))) (And.intro (And.intro (And.intro (And.intro (And.intro (And.intro (And.intro @zer_116 @tyc_117) (And.intro @zer_117 (And.intro @tyc_118 @zer_118))) (And.intro (And.intro @tyc_119 @zer_119) (And.intro @zds_119 (And.intro @arr_119 @stf_119)))) (And.intro (And.intro (And.intro @apf_119 @tyc_120) (And.intro @zer_120 (And.intro @zds_120 @arr_120))) (And.intro (And.intro @stf_120 (And.intro @apf_120 @tyc_121)) (And.intro @zer_121 (And.intro @tyc_122 @zer_122))))) (And.intro (And.intro (And.intro (And.intro @tyc_123 @zer_123) (And.intro @zds_123 (And.intro @fld_123_0 @fld_123_1))) (And.intro (And.intro @stf_123 (And.intro @arr_123 @apf_123)) (And.intro @tyc_124 (And.intro @zer_124 @tyc_125)))) (And.intro (And.intro (And.intro @zer_125 @tyc_126) (And.intro @zer_126 (And.intro @tyc_127 @zer_127))) (And.intro (And.intro @tyc_128 (And.intro @zer_128 @tyc_129)) (And.intro @zer_129 (And.intro @zds_129 @arr_129)))))) (And.intro (And.intro (And.intro (And.intro (And.intro @stf_129 @apf_129) (And.intro @tyc_130 (And.intro @zer_130 @tyc_131))) (And.intro (And.intro @zer_131 @tyc_132) (And.intro @zer_132 (And.intro @tyc_133 @zer_133)))) (And.intro (And.intro (And.intro @tyc_134 @zer_134) (And.intro @tyc_135 (And.intro @zer_135 @tyc_136))) (And.intro (And.intro @zer_136 (And.intro @tyc_137 @zer_137)) (And.intro @tyc_138 (And.intro @zer_138 @tyc_139))))) (And.intro (And.intro (And.intro (And.intro @zer_139 @tyc_140) (And.intro @zer_140 (And.intro @tyc_141 @zer_141))) (And.intro (And.intro @tyc_142 (And.intro @zer_142 @tyc_143)) (And.intro @zer_143 (And.intro @tyc_144 @zer_144)))) (And.intro (And.intro (And.intro @zds_144 @fld_144_0) (And.intro @fld_144_1 (And.intro @fld_144_2 @fld_144_3))) (And.intro (And.intro @stf_144 (And.intro @arr_144 @apf_144)) (And.intro @tyc_145 (And.intro @zer_145 @zds_145))))))) (And.intro (And.intro (And.intro (And.intro (And.intro (And.intro @fld_145_0 @fld_145_1) (And.intro @fld_145_2 (And.intro @fld_145_3 @stf_145))) (And.intro (And.intro @arr_145 @apf_145) (And.intro @tyc_146 (And.intro @zer_146 @zds_146)))) (And.intro (And.intro (And.intro @arr_146 @stf_146) (And.intro @tyc_147 (And.intro @zer_147 @zds_147))) (And.intro (And.intro @stf_147 (And.intro @arr_147 @tyc_148)) (And.intro @zer_148 (And.intro @zds_148 @stf_148))))) (And.intro (And.intro (And.intro (And.intro @arr_148 @tyc_149) (And.intro @zer_149 (And.intro @zds_149 @und_149))) (And.intro (And.intro @apf_149 (And.intro @tyc_150 @zer_150)) (And.intro @zds_150 (And.intro @und_150 @apf_150)))) (And.intro (And.intro (And.intro @tyc_151 @zer_151) (And.intro @zds_151 (And.intro @und_151 @apf_151))) (And.intro (And.intro @tyc_152 (And.intro @zer_152 @tyc_153)) (And.intro @zer_153 (And.intro @zds_153 @apf_153)))))) (And.intro (And.intro (And.intro (And.intro (And.intro @tyc_154 @zer_154) (And.intro @zds_154 (And.intro @und_154 @apf_154))) (And.intro (And.intro @tyc_155 (And.intro @zer_155 @zds_155)) (And.intro @und_155 (And.intro @apf_155 @tyc_156)))) (And.intro (And.intro (And.intro @zer_156 @zds_156) (And.intro @fld_156_0 (And.intro @fld_156_1 @fld_156_2))) (And.intro (And.intro @fld_156_3 (And.intro @fld_156_4 @fld_156_5)) (And.intro @fld_156_6 (And.intro @fld_156_7 @fld_156_8))))) (And.intro (And.intro (And.intro (And.intro @fld_156_9 @fld_156_10) (And.intro @stf_156 (And.intro @arr_156 @apf_156))) (And.intro (And.intro @tyc_157 (And.intro @zer_157 @zds_157)) (And.intro @fld_157_0 (And.intro @fld_157_1 @fld_157_2)))) (And.intro (And.intro (And.intro @fld_157_3 @fld_157_4) (And.intro @fld_157_5 (And.intro @fld_157_6 @fld_157_7))) (And.intro (And.intro @fld_157_8 (And.intro @fld_157_9 @fld_157_10)) (And.intro @stf_157 (And.intro @arr_157 @apf_157))))))))))
theorem fA : type_of% fA0 := fA0
end Go.Proofs.Ytmkholodkejomaa.Ab
