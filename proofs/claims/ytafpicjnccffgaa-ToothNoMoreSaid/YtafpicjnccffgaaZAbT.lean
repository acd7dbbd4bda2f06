/- Facts of the seat: its types and its functions, by number. -/
import Derived.Test.YtafpicjnccffgaaZAbV
import Derived.Test.YtafpicjnccffgaaProg
import Derived.KernelRfl
namespace Go.Proofs.Ytafpicjnccffgaa.Ab
open Go Go.RowKit
set_option linter.defProp false
theorem tyc_1 : tyc Try.prog 1 = some (false, 1) := by kernel_rfl
theorem zer_1 : zer Try.prog 1 = some [Go.Value.nilFunc] := by kernel_rfl
theorem tyc_2 : tyc Try.prog 2 = some (false, 1) := by kernel_rfl
theorem zer_2 : zer Try.prog 2 = some [Go.Value.int Go.IntKind.i64 0] := by kernel_rfl
theorem zds_2 : zds Try.prog 2 = some [.v (Go.Value.int Go.IntKind.i64 0)] := by kernel_rfl
theorem und_2 : Try.prog.underlying 2 = some (.int .i64) := by kernel_rfl
theorem apf_2 : apf Try.prog 2 = some (1, 8) := by kernel_rfl
theorem tyc_3 : tyc Try.prog 3 = some (false, 1) := by kernel_rfl
theorem zer_3 : zer Try.prog 3 = some [Go.Value.int Go.IntKind.i64 0] := by kernel_rfl
theorem zds_3 : zds Try.prog 3 = some [.v (Go.Value.int Go.IntKind.i64 0)] := by kernel_rfl
theorem und_3 : Try.prog.underlying 3 = some (.int .i64) := by kernel_rfl
theorem apf_3 : apf Try.prog 3 = some (1, 8) := by kernel_rfl
theorem tyc_4 : tyc Try.prog 4 = some (false, 1) := by kernel_rfl
theorem zer_4 : zer Try.prog 4 = some [Go.Value.bool false] := by kernel_rfl
theorem zds_4 : zds Try.prog 4 = some [.v (Go.Value.bool false)] := by kernel_rfl
theorem und_4 : Try.prog.underlying 4 = some .bool := by kernel_rfl
theorem apf_4 : apf Try.prog 4 = some (1, 1) := by kernel_rfl
theorem tyc_5 : tyc Try.prog 5 = some (false, 1) := by kernel_rfl
theorem zer_5 : zer Try.prog 5 = some [Go.Value.int Go.IntKind.u8 0] := by kernel_rfl
theorem zds_5 : zds Try.prog 5 = some [.v (Go.Value.int Go.IntKind.u8 0)] := by kernel_rfl
theorem und_5 : Try.prog.underlying 5 = some (.int .u8) := by kernel_rfl
theorem apf_5 : apf Try.prog 5 = some (1, 1) := by kernel_rfl
theorem tyc_6 : tyc Try.prog 6 = some (false, 1) := by kernel_rfl
theorem zer_6 : zer Try.prog 6 = some [Go.Value.int Go.IntKind.u8 0] := by kernel_rfl
theorem zds_6 : zds Try.prog 6 = some [.v (Go.Value.int Go.IntKind.u8 0)] := by kernel_rfl
theorem und_6 : Try.prog.underlying 6 = some (.int .u8) := by kernel_rfl
theorem apf_6 : apf Try.prog 6 = some (1, 1) := by kernel_rfl
theorem tyc_7 : tyc Try.prog 7 = some (true, 4) := by kernel_rfl
theorem zer_7 : zer Try.prog 7 = some [Go.Value.int Go.IntKind.i64 0, Go.Value.int Go.IntKind.i64 0, Go.Value.bool false, Go.Value.int Go.IntKind.u8 0] := by kernel_rfl
theorem zds_7 : zds Try.prog 7 = some [.v (Go.Value.int Go.IntKind.i64 0), .v (Go.Value.int Go.IntKind.i64 0), .v (Go.Value.bool false), .v (Go.Value.int Go.IntKind.u8 0)] := by kernel_rfl
theorem fld_7_0 : fld Try.prog 7 0 = some (0, 2) := by kernel_rfl
theorem fld_7_1 : fld Try.prog 7 1 = some (1, 3) := by kernel_rfl
theorem fld_7_2 : fld Try.prog 7 2 = some (2, 4) := by kernel_rfl
theorem fld_7_3 : fld Try.prog 7 3 = some (3, 6) := by kernel_rfl
theorem stf_7 : stf Try.prog 7 = some [(0, 1), (1, 1), (2, 1), (3, 1)] := by kernel_rfl
theorem arr_7 : arr Try.prog 7 = none := by kernel_rfl
theorem apf_7 : apf Try.prog 7 = some (4, 24) := by kernel_rfl
theorem tyc_8 : tyc Try.prog 8 = some (true, 4) := by kernel_rfl
theorem zer_8 : zer Try.prog 8 = some [Go.Value.int Go.IntKind.i64 0, Go.Value.int Go.IntKind.i64 0, Go.Value.bool false, Go.Value.int Go.IntKind.u8 0] := by kernel_rfl
theorem zds_8 : zds Try.prog 8 = some [.v (Go.Value.int Go.IntKind.i64 0), .v (Go.Value.int Go.IntKind.i64 0), .v (Go.Value.bool false), .v (Go.Value.int Go.IntKind.u8 0)] := by kernel_rfl
theorem fld_8_0 : fld Try.prog 8 0 = some (0, 2) := by kernel_rfl
theorem fld_8_1 : fld Try.prog 8 1 = some (1, 3) := by kernel_rfl
theorem fld_8_2 : fld Try.prog 8 2 = some (2, 4) := by kernel_rfl
theorem fld_8_3 : fld Try.prog 8 3 = some (3, 6) := by kernel_rfl
theorem stf_8 : stf Try.prog 8 = some [(0, 1), (1, 1), (2, 1), (3, 1)] := by kernel_rfl
theorem arr_8 : arr Try.prog 8 = none := by kernel_rfl
theorem apf_8 : apf Try.prog 8 = some (4, 24) := by kernel_rfl
theorem tyc_9 : tyc Try.prog 9 = some (false, 1) := by kernel_rfl
theorem zer_9 : zer Try.prog 9 = some [Go.Value.string { data := #[] }] := by kernel_rfl
theorem zds_9 : zds Try.prog 9 = some [.v (Go.Value.string { data := #[] })] := by kernel_rfl
theorem apf_9 : apf Try.prog 9 = some (1, 16) := by kernel_rfl
theorem tyc_10 : tyc Try.prog 10 = some (false, 1) := by kernel_rfl
theorem zer_10 : zer Try.prog 10 = some [Go.Value.string { data := #[] }] := by kernel_rfl
theorem zds_10 : zds Try.prog 10 = some [.v (Go.Value.string { data := #[] })] := by kernel_rfl
theorem apf_10 : apf Try.prog 10 = some (1, 16) := by kernel_rfl
theorem tyc_11 : tyc Try.prog 11 = some (false, 1) := by kernel_rfl
theorem zer_11 : zer Try.prog 11 = some [Go.Value.string { data := #[] }] := by kernel_rfl
theorem zds_11 : zds Try.prog 11 = some [.v (Go.Value.string { data := #[] })] := by kernel_rfl
theorem apf_11 : apf Try.prog 11 = some (1, 16) := by kernel_rfl
theorem tyc_12 : tyc Try.prog 12 = some (false, 1) := by kernel_rfl
theorem zer_12 : zer Try.prog 12 = some [Go.Value.int Go.IntKind.u64 0] := by kernel_rfl
theorem zds_12 : zds Try.prog 12 = some [.v (Go.Value.int Go.IntKind.u64 0)] := by kernel_rfl
theorem und_12 : Try.prog.underlying 12 = some (.int .u64) := by kernel_rfl
theorem apf_12 : apf Try.prog 12 = some (1, 8) := by kernel_rfl
theorem tyc_13 : tyc Try.prog 13 = some (true, 2) := by kernel_rfl
theorem zer_13 : zer Try.prog 13 = some [Go.Value.string { data := #[] }, Go.Value.int Go.IntKind.u64 0] := by kernel_rfl
theorem zds_13 : zds Try.prog 13 = some [.v (Go.Value.string { data := #[] }), .v (Go.Value.int Go.IntKind.u64 0)] := by kernel_rfl
theorem fld_13_0 : fld Try.prog 13 0 = some (0, 9) := by kernel_rfl
theorem fld_13_1 : fld Try.prog 13 1 = some (1, 12) := by kernel_rfl
theorem stf_13 : stf Try.prog 13 = some [(0, 1), (1, 1)] := by kernel_rfl
theorem arr_13 : arr Try.prog 13 = none := by kernel_rfl
theorem apf_13 : apf Try.prog 13 = some (2, 24) := by kernel_rfl
theorem tyc_14 : tyc Try.prog 14 = some (true, 2) := by kernel_rfl
theorem zer_14 : zer Try.prog 14 = some [Go.Value.string { data := #[] }, Go.Value.int Go.IntKind.u64 0] := by kernel_rfl
theorem zds_14 : zds Try.prog 14 = some [.v (Go.Value.string { data := #[] }), .v (Go.Value.int Go.IntKind.u64 0)] := by kernel_rfl
theorem fld_14_0 : fld Try.prog 14 0 = some (0, 9) := by kernel_rfl
theorem fld_14_1 : fld Try.prog 14 1 = some (1, 12) := by kernel_rfl
theorem stf_14 : stf Try.prog 14 = some [(0, 1), (1, 1)] := by kernel_rfl
theorem arr_14 : arr Try.prog 14 = none := by kernel_rfl
theorem apf_14 : apf Try.prog 14 = some (2, 24) := by kernel_rfl
theorem tyc_15 : tyc Try.prog 15 = some (false, 1) := by kernel_rfl
theorem zer_15 : zer Try.prog 15 = some [Go.Value.pointer none] := by kernel_rfl
theorem zds_15 : zds Try.prog 15 = some [.v (Go.Value.pointer none)] := by kernel_rfl
theorem apf_15 : apf Try.prog 15 = some (1, 8) := by kernel_rfl
theorem tyc_16 : tyc Try.prog 16 = some (false, 1) := by kernel_rfl
theorem zer_16 : zer Try.prog 16 = some [Go.Value.pointer none] := by kernel_rfl
theorem zds_16 : zds Try.prog 16 = some [.v (Go.Value.pointer none)] := by kernel_rfl
theorem apf_16 : apf Try.prog 16 = some (1, 8) := by kernel_rfl
theorem tyc_17 : tyc Try.prog 17 = some (false, 1) := by kernel_rfl
theorem zer_17 : zer Try.prog 17 = some [Go.Value.pointer none] := by kernel_rfl
theorem zds_17 : zds Try.prog 17 = some [.v (Go.Value.pointer none)] := by kernel_rfl
theorem apf_17 : apf Try.prog 17 = some (1, 8) := by kernel_rfl
theorem tyc_18 : tyc Try.prog 18 = some (true, 1) := by kernel_rfl
theorem zer_18 : zer Try.prog 18 = some [Go.Value.pointer none] := by kernel_rfl
theorem zds_18 : zds Try.prog 18 = some [.v (Go.Value.pointer none)] := by kernel_rfl
theorem fld_18_0 : fld Try.prog 18 0 = some (0, 17) := by kernel_rfl
theorem stf_18 : stf Try.prog 18 = some [(0, 1)] := by kernel_rfl
theorem arr_18 : arr Try.prog 18 = none := by kernel_rfl
theorem apf_18 : apf Try.prog 18 = some (1, 8) := by kernel_rfl
theorem tyc_19 : tyc Try.prog 19 = some (true, 1) := by kernel_rfl
theorem zer_19 : zer Try.prog 19 = some [Go.Value.pointer none] := by kernel_rfl
theorem zds_19 : zds Try.prog 19 = some [.v (Go.Value.pointer none)] := by kernel_rfl
theorem fld_19_0 : fld Try.prog 19 0 = some (0, 17) := by kernel_rfl
theorem stf_19 : stf Try.prog 19 = some [(0, 1)] := by kernel_rfl
theorem arr_19 : arr Try.prog 19 = none := by kernel_rfl
theorem apf_19 : apf Try.prog 19 = some (1, 8) := by kernel_rfl
theorem tyc_21 : tyc Try.prog 21 = some (false, 1) := by kernel_rfl
theorem zer_21 : zer Try.prog 21 = some [Go.Value.int Go.IntKind.i32 0] := by kernel_rfl
theorem zds_21 : zds Try.prog 21 = some [.v (Go.Value.int Go.IntKind.i32 0)] := by kernel_rfl
theorem und_21 : Try.prog.underlying 21 = some (.int .i32) := by kernel_rfl
theorem apf_21 : apf Try.prog 21 = some (1, 4) := by kernel_rfl
theorem tyc_22 : tyc Try.prog 22 = some (false, 1) := by kernel_rfl
theorem zer_22 : zer Try.prog 22 = some [Go.Value.slice none 0 0] := by kernel_rfl
theorem zds_22 : zds Try.prog 22 = some [.sl 2 []] := by kernel_rfl
theorem elt_22 : elt Try.prog 22 = some (85, 2) := by kernel_rfl
theorem apf_22 : apf Try.prog 22 = some (1, 24) := by kernel_rfl
theorem tyc_23 : tyc Try.prog 23 = some (false, 1) := by kernel_rfl
theorem zer_23 : zer Try.prog 23 = some [Go.Value.slice none 0 0] := by kernel_rfl
theorem zds_23 : zds Try.prog 23 = some [.sl 6 []] := by kernel_rfl
theorem elt_23 : elt Try.prog 23 = some (100, 6) := by kernel_rfl
theorem apf_23 : apf Try.prog 23 = some (1, 24) := by kernel_rfl
theorem tyc_24 : tyc Try.prog 24 = some (true, 4) := by kernel_rfl
theorem zer_24 : zer Try.prog 24 = some [Go.Value.slice none 0 0, Go.Value.slice none 0 0, Go.Value.int Go.IntKind.i64 0, Go.Value.slice none 0 0] := by kernel_rfl
theorem zds_24 : zds Try.prog 24 = some [.v (Go.Value.slice none 0 0), .v (Go.Value.slice none 0 0), .v (Go.Value.int Go.IntKind.i64 0), .v (Go.Value.slice none 0 0)] := by kernel_rfl
theorem fld_24_0 : fld Try.prog 24 0 = some (0, 22) := by kernel_rfl
theorem fld_24_1 : fld Try.prog 24 1 = some (1, 22) := by kernel_rfl
theorem fld_24_2 : fld Try.prog 24 2 = some (2, 3) := by kernel_rfl
theorem fld_24_3 : fld Try.prog 24 3 = some (3, 23) := by kernel_rfl
theorem stf_24 : stf Try.prog 24 = some [(0, 1), (1, 1), (2, 1), (3, 1)] := by kernel_rfl
theorem arr_24 : arr Try.prog 24 = none := by kernel_rfl
theorem apf_24 : apf Try.prog 24 = some (4, 80) := by kernel_rfl
theorem tyc_25 : tyc Try.prog 25 = some (true, 4) := by kernel_rfl
theorem zer_25 : zer Try.prog 25 = some [Go.Value.slice none 0 0, Go.Value.slice none 0 0, Go.Value.int Go.IntKind.i64 0, Go.Value.slice none 0 0] := by kernel_rfl
theorem zds_25 : zds Try.prog 25 = some [.v (Go.Value.slice none 0 0), .v (Go.Value.slice none 0 0), .v (Go.Value.int Go.IntKind.i64 0), .v (Go.Value.slice none 0 0)] := by kernel_rfl
theorem fld_25_0 : fld Try.prog 25 0 = some (0, 22) := by kernel_rfl
theorem fld_25_1 : fld Try.prog 25 1 = some (1, 22) := by kernel_rfl
theorem fld_25_2 : fld Try.prog 25 2 = some (2, 3) := by kernel_rfl
theorem fld_25_3 : fld Try.prog 25 3 = some (3, 23) := by kernel_rfl
theorem stf_25 : stf Try.prog 25 = some [(0, 1), (1, 1), (2, 1), (3, 1)] := by kernel_rfl
theorem arr_25 : arr Try.prog 25 = none := by kernel_rfl
theorem apf_25 : apf Try.prog 25 = some (4, 80) := by kernel_rfl
theorem tyc_26 : tyc Try.prog 26 = some (true, 4) := by kernel_rfl
theorem zer_26 : zer Try.prog 26 = some [Go.Value.int Go.IntKind.i64 0, Go.Value.int Go.IntKind.i64 0, Go.Value.int Go.IntKind.i64 0, Go.Value.int Go.IntKind.i64 0] := by kernel_rfl
theorem zds_26 : zds Try.prog 26 = some [.v (Go.Value.int Go.IntKind.i64 0), .v (Go.Value.int Go.IntKind.i64 0), .v (Go.Value.int Go.IntKind.i64 0), .v (Go.Value.int Go.IntKind.i64 0)] := by kernel_rfl
theorem fld_26_0 : fld Try.prog 26 0 = some (0, 3) := by kernel_rfl
theorem fld_26_1 : fld Try.prog 26 1 = some (1, 3) := by kernel_rfl
theorem fld_26_2 : fld Try.prog 26 2 = some (2, 3) := by kernel_rfl
theorem fld_26_3 : fld Try.prog 26 3 = some (3, 3) := by kernel_rfl
theorem stf_26 : stf Try.prog 26 = some [(0, 1), (1, 1), (2, 1), (3, 1)] := by kernel_rfl
theorem arr_26 : arr Try.prog 26 = none := by kernel_rfl
theorem apf_26 : apf Try.prog 26 = some (4, 32) := by kernel_rfl
theorem tyc_27 : tyc Try.prog 27 = some (true, 4) := by kernel_rfl
theorem zer_27 : zer Try.prog 27 = some [Go.Value.int Go.IntKind.i64 0, Go.Value.int Go.IntKind.i64 0, Go.Value.int Go.IntKind.i64 0, Go.Value.int Go.IntKind.i64 0] := by kernel_rfl
theorem zds_27 : zds Try.prog 27 = some [.v (Go.Value.int Go.IntKind.i64 0), .v (Go.Value.int Go.IntKind.i64 0), .v (Go.Value.int Go.IntKind.i64 0), .v (Go.Value.int Go.IntKind.i64 0)] := by kernel_rfl
theorem fld_27_0 : fld Try.prog 27 0 = some (0, 3) := by kernel_rfl
theorem fld_27_1 : fld Try.prog 27 1 = some (1, 3) := by kernel_rfl
theorem fld_27_2 : fld Try.prog 27 2 = some (2, 3) := by kernel_rfl
theorem fld_27_3 : fld Try.prog 27 3 = some (3, 3) := by kernel_rfl
theorem stf_27 : stf Try.prog 27 = some [(0, 1), (1, 1), (2, 1), (3, 1)] := by kernel_rfl
theorem arr_27 : arr Try.prog 27 = none := by kernel_rfl
theorem apf_27 : apf Try.prog 27 = some (4, 32) := by kernel_rfl
theorem tyc_28 : tyc Try.prog 28 = some (false, 1) := by kernel_rfl
theorem zer_28 : zer Try.prog 28 = some [Go.Value.nilFunc] := by kernel_rfl
theorem tyc_29 : tyc Try.prog 29 = some (false, 1) := by kernel_rfl
theorem zer_29 : zer Try.prog 29 = some [Go.Value.nilFunc] := by kernel_rfl
theorem tyc_30 : tyc Try.prog 30 = some (false, 1) := by kernel_rfl
theorem zer_30 : zer Try.prog 30 = some [Go.Value.nilFunc] := by kernel_rfl
theorem tyc_31 : tyc Try.prog 31 = some (false, 1) := by kernel_rfl
theorem zer_31 : zer Try.prog 31 = some [Go.Value.slice none 0 0] := by kernel_rfl
theorem zds_31 : zds Try.prog 31 = some [.sl 1 []] := by kernel_rfl
theorem elt_31 : elt Try.prog 31 = some (3, 1) := by kernel_rfl
theorem apf_31 : apf Try.prog 31 = some (1, 24) := by kernel_rfl
theorem tyc_32 : tyc Try.prog 32 = some (false, 1) := by kernel_rfl
theorem zer_32 : zer Try.prog 32 = some [Go.Value.int Go.IntKind.i64 0] := by kernel_rfl
theorem zds_32 : zds Try.prog 32 = some [.v (Go.Value.int Go.IntKind.i64 0)] := by kernel_rfl
theorem und_32 : Try.prog.underlying 32 = some (.int .i64) := by kernel_rfl
theorem apf_32 : apf Try.prog 32 = some (1, 8) := by kernel_rfl
theorem tyc_34 : tyc Try.prog 34 = some (false, 1) := by kernel_rfl
theorem zer_34 : zer Try.prog 34 = some [Go.Value.nilFunc] := by kernel_rfl
theorem tyc_35 : tyc Try.prog 35 = some (false, 1) := by kernel_rfl
theorem zer_35 : zer Try.prog 35 = some [Go.Value.nilFunc] := by kernel_rfl
theorem tyc_36 : tyc Try.prog 36 = some (false, 1) := by kernel_rfl
theorem zer_36 : zer Try.prog 36 = some [Go.Value.nilFunc] := by kernel_rfl
theorem tyc_38 : tyc Try.prog 38 = some (false, 1) := by kernel_rfl
theorem zer_38 : zer Try.prog 38 = some [Go.Value.nilFunc] := by kernel_rfl
theorem tyc_39 : tyc Try.prog 39 = some (false, 1) := by kernel_rfl
theorem zer_39 : zer Try.prog 39 = some [Go.Value.nilFunc] := by kernel_rfl
theorem tyc_40 : tyc Try.prog 40 = some (false, 1) := by kernel_rfl
theorem zer_40 : zer Try.prog 40 = some [Go.Value.nilFunc] := by kernel_rfl
theorem tyc_41 : tyc Try.prog 41 = some (true, 2) := by kernel_rfl
theorem zer_41 : zer Try.prog 41 = some [Go.Value.int Go.IntKind.i64 0, Go.Value.int Go.IntKind.i64 0] := by kernel_rfl
theorem zds_41 : zds Try.prog 41 = some [.v (Go.Value.int Go.IntKind.i64 0), .v (Go.Value.int Go.IntKind.i64 0)] := by kernel_rfl
theorem fld_41_0 : fld Try.prog 41 0 = some (0, 3) := by kernel_rfl
theorem fld_41_1 : fld Try.prog 41 1 = some (1, 3) := by kernel_rfl
theorem stf_41 : stf Try.prog 41 = some [(0, 1), (1, 1)] := by kernel_rfl
theorem arr_41 : arr Try.prog 41 = none := by kernel_rfl
theorem apf_41 : apf Try.prog 41 = some (2, 16) := by kernel_rfl
theorem tyc_42 : tyc Try.prog 42 = some (true, 2) := by kernel_rfl
theorem zer_42 : zer Try.prog 42 = some [Go.Value.int Go.IntKind.i64 0, Go.Value.int Go.IntKind.i64 0] := by kernel_rfl
theorem zds_42 : zds Try.prog 42 = some [.v (Go.Value.int Go.IntKind.i64 0), .v (Go.Value.int Go.IntKind.i64 0)] := by kernel_rfl
theorem fld_42_0 : fld Try.prog 42 0 = some (0, 3) := by kernel_rfl
theorem fld_42_1 : fld Try.prog 42 1 = some (1, 3) := by kernel_rfl
theorem stf_42 : stf Try.prog 42 = some [(0, 1), (1, 1)] := by kernel_rfl
theorem arr_42 : arr Try.prog 42 = none := by kernel_rfl
theorem apf_42 : apf Try.prog 42 = some (2, 16) := by kernel_rfl
theorem tyc_44 : tyc Try.prog 44 = some (false, 1) := by kernel_rfl
theorem zer_44 : zer Try.prog 44 = some [Go.Value.nilFunc] := by kernel_rfl
theorem tyc_45 : tyc Try.prog 45 = some (false, 1) := by kernel_rfl
theorem zer_45 : zer Try.prog 45 = some [Go.Value.nilFunc] := by kernel_rfl
theorem tyc_46 : tyc Try.prog 46 = some (false, 1) := by kernel_rfl
theorem zer_46 : zer Try.prog 46 = some [Go.Value.nilFunc] := by kernel_rfl
theorem tyc_47 : tyc Try.prog 47 = some (true, 3) := by kernel_rfl
theorem zer_47 : zer Try.prog 47 = some [Go.Value.slice none 0 0, Go.Value.slice none 0 0, Go.Value.slice none 0 0] := by kernel_rfl
theorem zds_47 : zds Try.prog 47 = some [.v (Go.Value.slice none 0 0), .v (Go.Value.slice none 0 0), .v (Go.Value.slice none 0 0)] := by kernel_rfl
theorem fld_47_0 : fld Try.prog 47 0 = some (0, 31) := by kernel_rfl
theorem fld_47_1 : fld Try.prog 47 1 = some (1, 31) := by kernel_rfl
theorem fld_47_2 : fld Try.prog 47 2 = some (2, 23) := by kernel_rfl
theorem stf_47 : stf Try.prog 47 = some [(0, 1), (1, 1), (2, 1)] := by kernel_rfl
theorem arr_47 : arr Try.prog 47 = none := by kernel_rfl
theorem apf_47 : apf Try.prog 47 = some (3, 72) := by kernel_rfl
theorem tyc_48 : tyc Try.prog 48 = some (true, 3) := by kernel_rfl
theorem zer_48 : zer Try.prog 48 = some [Go.Value.slice none 0 0, Go.Value.slice none 0 0, Go.Value.slice none 0 0] := by kernel_rfl
theorem zds_48 : zds Try.prog 48 = some [.v (Go.Value.slice none 0 0), .v (Go.Value.slice none 0 0), .v (Go.Value.slice none 0 0)] := by kernel_rfl
theorem fld_48_0 : fld Try.prog 48 0 = some (0, 31) := by kernel_rfl
theorem fld_48_1 : fld Try.prog 48 1 = some (1, 31) := by kernel_rfl
theorem fld_48_2 : fld Try.prog 48 2 = some (2, 23) := by kernel_rfl
theorem stf_48 : stf Try.prog 48 = some [(0, 1), (1, 1), (2, 1)] := by kernel_rfl
theorem arr_48 : arr Try.prog 48 = none := by kernel_rfl
theorem apf_48 : apf Try.prog 48 = some (3, 72) := by kernel_rfl
theorem tyc_49 : tyc Try.prog 49 = some (false, 1) := by kernel_rfl
theorem zer_49 : zer Try.prog 49 = some [Go.Value.nilFunc] := by kernel_rfl
theorem tyc_50 : tyc Try.prog 50 = some (false, 1) := by kernel_rfl
theorem zer_50 : zer Try.prog 50 = some [Go.Value.nilFunc] := by kernel_rfl
theorem tyc_51 : tyc Try.prog 51 = some (false, 1) := by kernel_rfl
theorem zer_51 : zer Try.prog 51 = some [Go.Value.slice none 0 0] := by kernel_rfl
theorem zds_51 : zds Try.prog 51 = some [.sl 4 []] := by kernel_rfl
theorem elt_51 : elt Try.prog 51 = some (53, 4) := by kernel_rfl
theorem apf_51 : apf Try.prog 51 = some (1, 24) := by kernel_rfl
theorem tyc_52 : tyc Try.prog 52 = some (false, 1) := by kernel_rfl
theorem zer_52 : zer Try.prog 52 = some [Go.Value.slice none 0 0] := by kernel_rfl
theorem zds_52 : zds Try.prog 52 = some [.sl 6 []] := by kernel_rfl
theorem elt_52 : elt Try.prog 52 = some (142, 6) := by kernel_rfl
theorem apf_52 : apf Try.prog 52 = some (1, 24) := by kernel_rfl
theorem tyc_53 : tyc Try.prog 53 = some (true, 4) := by kernel_rfl
theorem zer_53 : zer Try.prog 53 = some [Go.Value.int Go.IntKind.u8 0, Go.Value.int Go.IntKind.u8 0, Go.Value.int Go.IntKind.u8 0, Go.Value.int Go.IntKind.u8 0] := by kernel_rfl
theorem zds_53 : zds Try.prog 53 = some [.v (Go.Value.int Go.IntKind.u8 0), .v (Go.Value.int Go.IntKind.u8 0), .v (Go.Value.int Go.IntKind.u8 0), .v (Go.Value.int Go.IntKind.u8 0)] := by kernel_rfl
theorem arr_53 : arr Try.prog 53 = some (4, 5, 1) := by kernel_rfl
theorem stf_53 : stf Try.prog 53 = none := by kernel_rfl
theorem apf_53 : apf Try.prog 53 = some (4, 4) := by kernel_rfl
theorem tyc_54 : tyc Try.prog 54 = some (true, 7) := by kernel_rfl
theorem zer_54 : zer Try.prog 54 = some [Go.Value.slice none 0 0, Go.Value.int Go.IntKind.u8 0, Go.Value.slice none 0 0, Go.Value.int Go.IntKind.u8 0, Go.Value.int Go.IntKind.u8 0, Go.Value.int Go.IntKind.u8 0, Go.Value.int Go.IntKind.u8 0] := by kernel_rfl
theorem zds_54 : zds Try.prog 54 = some [.v (Go.Value.slice none 0 0), .v (Go.Value.int Go.IntKind.u8 0), .v (Go.Value.slice none 0 0), .v (Go.Value.int Go.IntKind.u8 0), .v (Go.Value.int Go.IntKind.u8 0), .v (Go.Value.int Go.IntKind.u8 0), .v (Go.Value.int Go.IntKind.u8 0)] := by kernel_rfl
theorem fld_54_0 : fld Try.prog 54 0 = some (0, 51) := by kernel_rfl
theorem fld_54_1 : fld Try.prog 54 1 = some (1, 5) := by kernel_rfl
theorem fld_54_2 : fld Try.prog 54 2 = some (2, 52) := by kernel_rfl
theorem fld_54_3 : fld Try.prog 54 3 = some (3, 53) := by kernel_rfl
theorem stf_54 : stf Try.prog 54 = some [(0, 1), (1, 1), (2, 1), (3, 4)] := by kernel_rfl
theorem arr_54 : arr Try.prog 54 = none := by kernel_rfl
theorem apf_54 : apf Try.prog 54 = some (7, 64) := by kernel_rfl
theorem tyc_55 : tyc Try.prog 55 = some (true, 7) := by kernel_rfl
theorem zer_55 : zer Try.prog 55 = some [Go.Value.slice none 0 0, Go.Value.int Go.IntKind.u8 0, Go.Value.slice none 0 0, Go.Value.int Go.IntKind.u8 0, Go.Value.int Go.IntKind.u8 0, Go.Value.int Go.IntKind.u8 0, Go.Value.int Go.IntKind.u8 0] := by kernel_rfl
theorem zds_55 : zds Try.prog 55 = some [.v (Go.Value.slice none 0 0), .v (Go.Value.int Go.IntKind.u8 0), .v (Go.Value.slice none 0 0), .v (Go.Value.int Go.IntKind.u8 0), .v (Go.Value.int Go.IntKind.u8 0), .v (Go.Value.int Go.IntKind.u8 0), .v (Go.Value.int Go.IntKind.u8 0)] := by kernel_rfl
theorem fld_55_0 : fld Try.prog 55 0 = some (0, 51) := by kernel_rfl
theorem fld_55_1 : fld Try.prog 55 1 = some (1, 5) := by kernel_rfl
theorem fld_55_2 : fld Try.prog 55 2 = some (2, 52) := by kernel_rfl
theorem fld_55_3 : fld Try.prog 55 3 = some (3, 53) := by kernel_rfl
theorem stf_55 : stf Try.prog 55 = some [(0, 1), (1, 1), (2, 1), (3, 4)] := by kernel_rfl
theorem arr_55 : arr Try.prog 55 = none := by kernel_rfl
theorem apf_55 : apf Try.prog 55 = some (7, 64) := by kernel_rfl
theorem tyc_56 : tyc Try.prog 56 = some (false, 1) := by kernel_rfl
theorem zer_56 : zer Try.prog 56 = some [Go.Value.slice none 0 0] := by kernel_rfl
theorem zds_56 : zds Try.prog 56 = some [.sl 1 []] := by kernel_rfl
theorem elt_56 : elt Try.prog 56 = some (5, 1) := by kernel_rfl
theorem apf_56 : apf Try.prog 56 = some (1, 24) := by kernel_rfl
theorem tyc_57 : tyc Try.prog 57 = some (false, 1) := by kernel_rfl
theorem zer_57 : zer Try.prog 57 = some [Go.Value.slice none 0 0] := by kernel_rfl
theorem zds_57 : zds Try.prog 57 = some [.sl 3 []] := by kernel_rfl
theorem elt_57 : elt Try.prog 57 = some (113, 3) := by kernel_rfl
theorem apf_57 : apf Try.prog 57 = some (1, 24) := by kernel_rfl
theorem tyc_58 : tyc Try.prog 58 = some (true, 3) := by kernel_rfl
theorem zer_58 : zer Try.prog 58 = some [Go.Value.slice none 0 0, Go.Value.slice none 0 0, Go.Value.slice none 0 0] := by kernel_rfl
theorem zds_58 : zds Try.prog 58 = some [.v (Go.Value.slice none 0 0), .v (Go.Value.slice none 0 0), .v (Go.Value.slice none 0 0)] := by kernel_rfl
theorem fld_58_0 : fld Try.prog 58 0 = some (0, 31) := by kernel_rfl
theorem fld_58_1 : fld Try.prog 58 1 = some (1, 31) := by kernel_rfl
theorem fld_58_2 : fld Try.prog 58 2 = some (2, 57) := by kernel_rfl
theorem stf_58 : stf Try.prog 58 = some [(0, 1), (1, 1), (2, 1)] := by kernel_rfl
theorem arr_58 : arr Try.prog 58 = none := by kernel_rfl
theorem apf_58 : apf Try.prog 58 = some (3, 72) := by kernel_rfl
theorem tyc_59 : tyc Try.prog 59 = some (true, 3) := by kernel_rfl
theorem zer_59 : zer Try.prog 59 = some [Go.Value.slice none 0 0, Go.Value.slice none 0 0, Go.Value.slice none 0 0] := by kernel_rfl
theorem zds_59 : zds Try.prog 59 = some [.v (Go.Value.slice none 0 0), .v (Go.Value.slice none 0 0), .v (Go.Value.slice none 0 0)] := by kernel_rfl
theorem fld_59_0 : fld Try.prog 59 0 = some (0, 31) := by kernel_rfl
theorem fld_59_1 : fld Try.prog 59 1 = some (1, 31) := by kernel_rfl
theorem fld_59_2 : fld Try.prog 59 2 = some (2, 57) := by kernel_rfl
theorem stf_59 : stf Try.prog 59 = some [(0, 1), (1, 1), (2, 1)] := by kernel_rfl
theorem arr_59 : arr Try.prog 59 = none := by kernel_rfl
theorem apf_59 : apf Try.prog 59 = some (3, 72) := by kernel_rfl
theorem tyc_61 : tyc Try.prog 61 = some (false, 1) := by kernel_rfl
theorem zer_61 : zer Try.prog 61 = some [Go.Value.nilFunc] := by kernel_rfl
theorem tyc_62 : tyc Try.prog 62 = some (false, 1) := by kernel_rfl
theorem zer_62 : zer Try.prog 62 = some [Go.Value.slice none 0 0] := by kernel_rfl
theorem zds_62 : zds Try.prog 62 = some [.sl 2 []] := by kernel_rfl
theorem elt_62 : elt Try.prog 62 = some (42, 2) := by kernel_rfl
theorem apf_62 : apf Try.prog 62 = some (1, 24) := by kernel_rfl
theorem tyc_64 : tyc Try.prog 64 = some (false, 1) := by kernel_rfl
theorem zer_64 : zer Try.prog 64 = some [Go.Value.nilFunc] := by kernel_rfl
theorem tyc_65 : tyc Try.prog 65 = some (false, 1) := by kernel_rfl
theorem zer_65 : zer Try.prog 65 = some [Go.Value.nilFunc] := by kernel_rfl
theorem tyc_67 : tyc Try.prog 67 = some (false, 1) := by kernel_rfl
theorem zer_67 : zer Try.prog 67 = some [Go.Value.nilFunc] := by kernel_rfl
theorem tyc_69 : tyc Try.prog 69 = some (false, 1) := by kernel_rfl
theorem zer_69 : zer Try.prog 69 = some [Go.Value.nilFunc] := by kernel_rfl
theorem tyc_70 : tyc Try.prog 70 = some (false, 1) := by kernel_rfl
theorem zer_70 : zer Try.prog 70 = some [Go.Value.nilFunc] := by kernel_rfl
theorem tyc_72 : tyc Try.prog 72 = some (false, 1) := by kernel_rfl
theorem zer_72 : zer Try.prog 72 = some [Go.Value.nilFunc] := by kernel_rfl
theorem tyc_73 : tyc Try.prog 73 = some (false, 1) := by kernel_rfl
theorem zer_73 : zer Try.prog 73 = some [Go.Value.nilFunc] := by kernel_rfl
theorem tyc_74 : tyc Try.prog 74 = some (false, 1) := by kernel_rfl
theorem zer_74 : zer Try.prog 74 = some [Go.Value.nilFunc] := by kernel_rfl
theorem tyc_75 : tyc Try.prog 75 = some (false, 1) := by kernel_rfl
theorem zer_75 : zer Try.prog 75 = some [Go.Value.nilFunc] := by kernel_rfl
theorem tyc_76 : tyc Try.prog 76 = some (false, 1) := by kernel_rfl
theorem zer_76 : zer Try.prog 76 = some [Go.Value.nilFunc] := by kernel_rfl
theorem tyc_77 : tyc Try.prog 77 = some (false, 1) := by kernel_rfl
theorem zer_77 : zer Try.prog 77 = some [Go.Value.nilFunc] := by kernel_rfl
theorem tyc_78 : tyc Try.prog 78 = some (false, 1) := by kernel_rfl
theorem zer_78 : zer Try.prog 78 = some [Go.Value.nilFunc] := by kernel_rfl
theorem tyc_80 : tyc Try.prog 80 = some (false, 1) := by kernel_rfl
theorem zer_80 : zer Try.prog 80 = some [Go.Value.nilFunc] := by kernel_rfl
theorem tyc_81 : tyc Try.prog 81 = some (false, 1) := by kernel_rfl
theorem zer_81 : zer Try.prog 81 = some [Go.Value.nilFunc] := by kernel_rfl
theorem tyc_82 : tyc Try.prog 82 = some (false, 1) := by kernel_rfl
theorem zer_82 : zer Try.prog 82 = some [Go.Value.nilFunc] := by kernel_rfl
theorem tyc_83 : tyc Try.prog 83 = some (false, 1) := by kernel_rfl
theorem zer_83 : zer Try.prog 83 = some [Go.Value.nilFunc] := by kernel_rfl
theorem tyc_84 : tyc Try.prog 84 = some (true, 2) := by kernel_rfl
theorem zer_84 : zer Try.prog 84 = some [Go.Value.int Go.IntKind.i64 0, Go.Value.int Go.IntKind.i64 0] := by kernel_rfl
theorem zds_84 : zds Try.prog 84 = some [.v (Go.Value.int Go.IntKind.i64 0), .v (Go.Value.int Go.IntKind.i64 0)] := by kernel_rfl
theorem fld_84_0 : fld Try.prog 84 0 = some (0, 3) := by kernel_rfl
theorem fld_84_1 : fld Try.prog 84 1 = some (1, 3) := by kernel_rfl
theorem stf_84 : stf Try.prog 84 = some [(0, 1), (1, 1)] := by kernel_rfl
theorem arr_84 : arr Try.prog 84 = none := by kernel_rfl
theorem apf_84 : apf Try.prog 84 = some (2, 16) := by kernel_rfl
theorem tyc_85 : tyc Try.prog 85 = some (true, 2) := by kernel_rfl
theorem zer_85 : zer Try.prog 85 = some [Go.Value.int Go.IntKind.i64 0, Go.Value.int Go.IntKind.i64 0] := by kernel_rfl
theorem zds_85 : zds Try.prog 85 = some [.v (Go.Value.int Go.IntKind.i64 0), .v (Go.Value.int Go.IntKind.i64 0)] := by kernel_rfl
theorem fld_85_0 : fld Try.prog 85 0 = some (0, 3) := by kernel_rfl
theorem fld_85_1 : fld Try.prog 85 1 = some (1, 3) := by kernel_rfl
theorem stf_85 : stf Try.prog 85 = some [(0, 1), (1, 1)] := by kernel_rfl
theorem arr_85 : arr Try.prog 85 = none := by kernel_rfl
theorem apf_85 : apf Try.prog 85 = some (2, 16) := by kernel_rfl
theorem tyc_86 : tyc Try.prog 86 = some (false, 1) := by kernel_rfl
theorem zer_86 : zer Try.prog 86 = some [Go.Value.nilFunc] := by kernel_rfl
theorem tyc_87 : tyc Try.prog 87 = some (true, 6) := by kernel_rfl
theorem zer_87 : zer Try.prog 87 = some [Go.Value.slice none 0 0, Go.Value.slice none 0 0, Go.Value.int Go.IntKind.i64 0, Go.Value.slice none 0 0, Go.Value.slice none 0 0, Go.Value.slice none 0 0] := by kernel_rfl
theorem zds_87 : zds Try.prog 87 = some [.v (Go.Value.slice none 0 0), .v (Go.Value.slice none 0 0), .v (Go.Value.int Go.IntKind.i64 0), .v (Go.Value.slice none 0 0), .v (Go.Value.slice none 0 0), .v (Go.Value.slice none 0 0)] := by kernel_rfl
theorem fld_87_0 : fld Try.prog 87 0 = some (0, 25) := by kernel_rfl
theorem fld_87_1 : fld Try.prog 87 1 = some (4, 22) := by kernel_rfl
theorem fld_87_2 : fld Try.prog 87 2 = some (5, 22) := by kernel_rfl
theorem stf_87 : stf Try.prog 87 = some [(0, 4), (4, 1), (5, 1)] := by kernel_rfl
theorem arr_87 : arr Try.prog 87 = none := by kernel_rfl
theorem apf_87 : apf Try.prog 87 = some (6, 128) := by kernel_rfl
theorem tyc_88 : tyc Try.prog 88 = some (true, 6) := by kernel_rfl
theorem zer_88 : zer Try.prog 88 = some [Go.Value.slice none 0 0, Go.Value.slice none 0 0, Go.Value.int Go.IntKind.i64 0, Go.Value.slice none 0 0, Go.Value.slice none 0 0, Go.Value.slice none 0 0] := by kernel_rfl
theorem zds_88 : zds Try.prog 88 = some [.v (Go.Value.slice none 0 0), .v (Go.Value.slice none 0 0), .v (Go.Value.int Go.IntKind.i64 0), .v (Go.Value.slice none 0 0), .v (Go.Value.slice none 0 0), .v (Go.Value.slice none 0 0)] := by kernel_rfl
theorem fld_88_0 : fld Try.prog 88 0 = some (0, 25) := by kernel_rfl
theorem fld_88_1 : fld Try.prog 88 1 = some (4, 22) := by kernel_rfl
theorem fld_88_2 : fld Try.prog 88 2 = some (5, 22) := by kernel_rfl
theorem stf_88 : stf Try.prog 88 = some [(0, 4), (4, 1), (5, 1)] := by kernel_rfl
theorem arr_88 : arr Try.prog 88 = none := by kernel_rfl
theorem apf_88 : apf Try.prog 88 = some (6, 128) := by kernel_rfl
theorem tyc_90 : tyc Try.prog 90 = some (false, 1) := by kernel_rfl
theorem zer_90 : zer Try.prog 90 = some [Go.Value.nilFunc] := by kernel_rfl
theorem tyc_91 : tyc Try.prog 91 = some (false, 1) := by kernel_rfl
theorem zer_91 : zer Try.prog 91 = some [Go.Value.nilFunc] := by kernel_rfl
theorem tyc_92 : tyc Try.prog 92 = some (false, 1) := by kernel_rfl
theorem zer_92 : zer Try.prog 92 = some [Go.Value.slice none 0 0] := by kernel_rfl
theorem zds_92 : zds Try.prog 92 = some [.sl 4 []] := by kernel_rfl
theorem elt_92 : elt Try.prog 92 = some (118, 4) := by kernel_rfl
theorem apf_92 : apf Try.prog 92 = some (1, 24) := by kernel_rfl
theorem tyc_93 : tyc Try.prog 93 = some (true, 3) := by kernel_rfl
theorem zer_93 : zer Try.prog 93 = some [Go.Value.slice none 0 0, Go.Value.slice none 0 0, Go.Value.slice none 0 0] := by kernel_rfl
theorem zds_93 : zds Try.prog 93 = some [.v (Go.Value.slice none 0 0), .v (Go.Value.slice none 0 0), .v (Go.Value.slice none 0 0)] := by kernel_rfl
theorem fld_93_0 : fld Try.prog 93 0 = some (0, 31) := by kernel_rfl
theorem fld_93_1 : fld Try.prog 93 1 = some (1, 31) := by kernel_rfl
theorem fld_93_2 : fld Try.prog 93 2 = some (2, 92) := by kernel_rfl
theorem stf_93 : stf Try.prog 93 = some [(0, 1), (1, 1), (2, 1)] := by kernel_rfl
theorem arr_93 : arr Try.prog 93 = none := by kernel_rfl
theorem apf_93 : apf Try.prog 93 = some (3, 72) := by kernel_rfl
theorem tyc_94 : tyc Try.prog 94 = some (true, 3) := by kernel_rfl
theorem zer_94 : zer Try.prog 94 = some [Go.Value.slice none 0 0, Go.Value.slice none 0 0, Go.Value.slice none 0 0] := by kernel_rfl
theorem zds_94 : zds Try.prog 94 = some [.v (Go.Value.slice none 0 0), .v (Go.Value.slice none 0 0), .v (Go.Value.slice none 0 0)] := by kernel_rfl
theorem fld_94_0 : fld Try.prog 94 0 = some (0, 31) := by kernel_rfl
theorem fld_94_1 : fld Try.prog 94 1 = some (1, 31) := by kernel_rfl
theorem fld_94_2 : fld Try.prog 94 2 = some (2, 92) := by kernel_rfl
theorem stf_94 : stf Try.prog 94 = some [(0, 1), (1, 1), (2, 1)] := by kernel_rfl
theorem arr_94 : arr Try.prog 94 = none := by kernel_rfl
theorem apf_94 : apf Try.prog 94 = some (3, 72) := by kernel_rfl
theorem tyc_95 : tyc Try.prog 95 = some (false, 1) := by kernel_rfl
theorem zer_95 : zer Try.prog 95 = some [Go.Value.nilFunc] := by kernel_rfl
theorem tyc_96 : tyc Try.prog 96 = some (false, 1) := by kernel_rfl
theorem zer_96 : zer Try.prog 96 = some [Go.Value.nilFunc] := by kernel_rfl
theorem tyc_97 : tyc Try.prog 97 = some (false, 1) := by kernel_rfl
theorem zer_97 : zer Try.prog 97 = some [Go.Value.nilFunc] := by kernel_rfl
theorem tyc_98 : tyc Try.prog 98 = some (false, 1) := by kernel_rfl
theorem zer_98 : zer Try.prog 98 = some [Go.Value.nilFunc] := by kernel_rfl
theorem tyc_99 : tyc Try.prog 99 = some (true, 6) := by kernel_rfl
theorem zer_99 : zer Try.prog 99 = some [Go.Value.int Go.IntKind.i64 0, Go.Value.int Go.IntKind.i64 0, Go.Value.int Go.IntKind.i64 0, Go.Value.int Go.IntKind.i64 0, Go.Value.int Go.IntKind.i64 0, Go.Value.int Go.IntKind.i64 0] := by kernel_rfl
theorem zds_99 : zds Try.prog 99 = some [.v (Go.Value.int Go.IntKind.i64 0), .v (Go.Value.int Go.IntKind.i64 0), .v (Go.Value.int Go.IntKind.i64 0), .v (Go.Value.int Go.IntKind.i64 0), .v (Go.Value.int Go.IntKind.i64 0), .v (Go.Value.int Go.IntKind.i64 0)] := by kernel_rfl
theorem fld_99_0 : fld Try.prog 99 0 = some (0, 85) := by kernel_rfl
theorem fld_99_1 : fld Try.prog 99 1 = some (2, 85) := by kernel_rfl
theorem fld_99_2 : fld Try.prog 99 2 = some (4, 85) := by kernel_rfl
theorem stf_99 : stf Try.prog 99 = some [(0, 2), (2, 2), (4, 2)] := by kernel_rfl
theorem arr_99 : arr Try.prog 99 = none := by kernel_rfl
theorem apf_99 : apf Try.prog 99 = some (6, 48) := by kernel_rfl
theorem tyc_100 : tyc Try.prog 100 = some (true, 6) := by kernel_rfl
theorem zer_100 : zer Try.prog 100 = some [Go.Value.int Go.IntKind.i64 0, Go.Value.int Go.IntKind.i64 0, Go.Value.int Go.IntKind.i64 0, Go.Value.int Go.IntKind.i64 0, Go.Value.int Go.IntKind.i64 0, Go.Value.int Go.IntKind.i64 0] := by kernel_rfl
theorem zds_100 : zds Try.prog 100 = some [.v (Go.Value.int Go.IntKind.i64 0), .v (Go.Value.int Go.IntKind.i64 0), .v (Go.Value.int Go.IntKind.i64 0), .v (Go.Value.int Go.IntKind.i64 0), .v (Go.Value.int Go.IntKind.i64 0), .v (Go.Value.int Go.IntKind.i64 0)] := by kernel_rfl
theorem fld_100_0 : fld Try.prog 100 0 = some (0, 85) := by kernel_rfl
theorem fld_100_1 : fld Try.prog 100 1 = some (2, 85) := by kernel_rfl
theorem fld_100_2 : fld Try.prog 100 2 = some (4, 85) := by kernel_rfl
theorem stf_100 : stf Try.prog 100 = some [(0, 2), (2, 2), (4, 2)] := by kernel_rfl
theorem arr_100 : arr Try.prog 100 = none := by kernel_rfl
theorem apf_100 : apf Try.prog 100 = some (6, 48) := by kernel_rfl
theorem tyc_101 : tyc Try.prog 101 = some (false, 1) := by kernel_rfl
theorem zer_101 : zer Try.prog 101 = some [Go.Value.nilFunc] := by kernel_rfl
theorem tyc_102 : tyc Try.prog 102 = some (false, 1) := by kernel_rfl
theorem zer_102 : zer Try.prog 102 = some [Go.Value.nilFunc] := by kernel_rfl
theorem tyc_103 : tyc Try.prog 103 = some (false, 1) := by kernel_rfl
theorem zer_103 : zer Try.prog 103 = some [Go.Value.slice none 0 0] := by kernel_rfl
theorem zds_103 : zds Try.prog 103 = some [.sl 1 []] := by kernel_rfl
theorem elt_103 : elt Try.prog 103 = some (31, 1) := by kernel_rfl
theorem apf_103 : apf Try.prog 103 = some (1, 24) := by kernel_rfl
theorem tyc_104 : tyc Try.prog 104 = some (false, 1) := by kernel_rfl
theorem zer_104 : zer Try.prog 104 = some [Go.Value.nilFunc] := by kernel_rfl
theorem tyc_105 : tyc Try.prog 105 = some (false, 1) := by kernel_rfl
theorem zer_105 : zer Try.prog 105 = some [Go.Value.nilFunc] := by kernel_rfl
theorem tyc_106 : tyc Try.prog 106 = some (false, 1) := by kernel_rfl
theorem zer_106 : zer Try.prog 106 = some [Go.Value.nilFunc] := by kernel_rfl
theorem tyc_107 : tyc Try.prog 107 = some (false, 1) := by kernel_rfl
theorem zer_107 : zer Try.prog 107 = some [Go.Value.nilFunc] := by kernel_rfl
theorem tyc_108 : tyc Try.prog 108 = some (false, 1) := by kernel_rfl
theorem zer_108 : zer Try.prog 108 = some [Go.Value.nilFunc] := by kernel_rfl
theorem tyc_109 : tyc Try.prog 109 = some (false, 1) := by kernel_rfl
theorem zer_109 : zer Try.prog 109 = some [Go.Value.nilFunc] := by kernel_rfl
theorem tyc_111 : tyc Try.prog 111 = some (false, 1) := by kernel_rfl
theorem zer_111 : zer Try.prog 111 = some [Go.Value.nilFunc] := by kernel_rfl
theorem tyc_112 : tyc Try.prog 112 = some (true, 2) := by kernel_rfl
theorem zer_112 : zer Try.prog 112 = some [Go.Value.int Go.IntKind.u8 0, Go.Value.int Go.IntKind.u8 0] := by kernel_rfl
theorem zds_112 : zds Try.prog 112 = some [.v (Go.Value.int Go.IntKind.u8 0), .v (Go.Value.int Go.IntKind.u8 0)] := by kernel_rfl
theorem arr_112 : arr Try.prog 112 = some (2, 5, 1) := by kernel_rfl
theorem stf_112 : stf Try.prog 112 = none := by kernel_rfl
theorem apf_112 : apf Try.prog 112 = some (2, 2) := by kernel_rfl
theorem tyc_113 : tyc Try.prog 113 = some (true, 3) := by kernel_rfl
theorem zer_113 : zer Try.prog 113 = some [Go.Value.int Go.IntKind.i64 0, Go.Value.int Go.IntKind.i64 0, Go.Value.int Go.IntKind.i64 0] := by kernel_rfl
theorem zds_113 : zds Try.prog 113 = some [.v (Go.Value.int Go.IntKind.i64 0), .v (Go.Value.int Go.IntKind.i64 0), .v (Go.Value.int Go.IntKind.i64 0)] := by kernel_rfl
theorem arr_113 : arr Try.prog 113 = some (3, 3, 1) := by kernel_rfl
theorem stf_113 : stf Try.prog 113 = none := by kernel_rfl
theorem apf_113 : apf Try.prog 113 = some (3, 24) := by kernel_rfl
theorem tyc_115 : tyc Try.prog 115 = some (false, 1) := by kernel_rfl
theorem zer_115 : zer Try.prog 115 = some [Go.Value.nilFunc] := by kernel_rfl
theorem tyc_116 : tyc Try.prog 116 = some (false, 1) := by kernel_rfl
theorem zer_116 : zer Try.prog 116 = some [Go.Value.nilFunc] := by kernel_rfl
theorem tyc_117 : tyc Try.prog 117 = some (true, 4) := by kernel_rfl
theorem zer_117 : zer Try.prog 117 = some [Go.Value.int Go.IntKind.i64 0, Go.Value.int Go.IntKind.i64 0, Go.Value.int Go.IntKind.i64 0, Go.Value.int Go.IntKind.i64 0] := by kernel_rfl
theorem zds_117 : zds Try.prog 117 = some [.v (Go.Value.int Go.IntKind.i64 0), .v (Go.Value.int Go.IntKind.i64 0), .v (Go.Value.int Go.IntKind.i64 0), .v (Go.Value.int Go.IntKind.i64 0)] := by kernel_rfl
theorem fld_117_0 : fld Try.prog 117 0 = some (0, 85) := by kernel_rfl
theorem fld_117_1 : fld Try.prog 117 1 = some (2, 85) := by kernel_rfl
theorem stf_117 : stf Try.prog 117 = some [(0, 2), (2, 2)] := by kernel_rfl
theorem arr_117 : arr Try.prog 117 = none := by kernel_rfl
theorem apf_117 : apf Try.prog 117 = some (4, 32) := by kernel_rfl
theorem tyc_118 : tyc Try.prog 118 = some (true, 4) := by kernel_rfl
theorem zer_118 : zer Try.prog 118 = some [Go.Value.int Go.IntKind.i64 0, Go.Value.int Go.IntKind.i64 0, Go.Value.int Go.IntKind.i64 0, Go.Value.int Go.IntKind.i64 0] := by kernel_rfl
theorem zds_118 : zds Try.prog 118 = some [.v (Go.Value.int Go.IntKind.i64 0), .v (Go.Value.int Go.IntKind.i64 0), .v (Go.Value.int Go.IntKind.i64 0), .v (Go.Value.int Go.IntKind.i64 0)] := by kernel_rfl
theorem fld_118_0 : fld Try.prog 118 0 = some (0, 85) := by kernel_rfl
theorem fld_118_1 : fld Try.prog 118 1 = some (2, 85) := by kernel_rfl
theorem stf_118 : stf Try.prog 118 = some [(0, 2), (2, 2)] := by kernel_rfl
theorem arr_118 : arr Try.prog 118 = none := by kernel_rfl
theorem apf_118 : apf Try.prog 118 = some (4, 32) := by kernel_rfl
theorem tyc_119 : tyc Try.prog 119 = some (false, 1) := by kernel_rfl
theorem zer_119 : zer Try.prog 119 = some [Go.Value.nilFunc] := by kernel_rfl
theorem tyc_120 : tyc Try.prog 120 = some (false, 1) := by kernel_rfl
theorem zer_120 : zer Try.prog 120 = some [Go.Value.nilFunc] := by kernel_rfl
theorem tyc_121 : tyc Try.prog 121 = some (false, 1) := by kernel_rfl
theorem zer_121 : zer Try.prog 121 = some [Go.Value.nilFunc] := by kernel_rfl
theorem tyc_122 : tyc Try.prog 122 = some (false, 1) := by kernel_rfl
theorem zer_122 : zer Try.prog 122 = some [Go.Value.nilFunc] := by kernel_rfl
theorem tyc_123 : tyc Try.prog 123 = some (false, 1) := by kernel_rfl
theorem zer_123 : zer Try.prog 123 = some [Go.Value.nilFunc] := by kernel_rfl
theorem tyc_124 : tyc Try.prog 124 = some (false, 1) := by kernel_rfl
theorem zer_124 : zer Try.prog 124 = some [Go.Value.nilFunc] := by kernel_rfl
theorem tyc_125 : tyc Try.prog 125 = some (false, 1) := by kernel_rfl
theorem zer_125 : zer Try.prog 125 = some [Go.Value.nilFunc] := by kernel_rfl
theorem tyc_126 : tyc Try.prog 126 = some (false, 1) := by kernel_rfl
theorem zer_126 : zer Try.prog 126 = some [Go.Value.nilFunc] := by kernel_rfl
theorem tyc_127 : tyc Try.prog 127 = some (false, 1) := by kernel_rfl
theorem zer_127 : zer Try.prog 127 = some [Go.Value.nilFunc] := by kernel_rfl
theorem tyc_128 : tyc Try.prog 128 = some (false, 1) := by kernel_rfl
theorem zer_128 : zer Try.prog 128 = some [Go.Value.nilFunc] := by kernel_rfl
theorem tyc_129 : tyc Try.prog 129 = some (false, 1) := by kernel_rfl
theorem zer_129 : zer Try.prog 129 = some [Go.Value.nilFunc] := by kernel_rfl
theorem tyc_130 : tyc Try.prog 130 = some (false, 1) := by kernel_rfl
theorem zer_130 : zer Try.prog 130 = some [Go.Value.nilFunc] := by kernel_rfl
theorem tyc_131 : tyc Try.prog 131 = some (false, 1) := by kernel_rfl
theorem zer_131 : zer Try.prog 131 = some [Go.Value.map none] := by kernel_rfl
theorem zds_131 : zds Try.prog 131 = some [.v (Go.Value.map none)] := by kernel_rfl
theorem mpt_131 : mpt Try.prog 131 = some (.i64, 31) := by kernel_rfl
theorem apf_131 : apf Try.prog 131 = some (1, 8) := by kernel_rfl
theorem tyc_132 : tyc Try.prog 132 = some (false, 1) := by kernel_rfl
theorem zer_132 : zer Try.prog 132 = some [Go.Value.nilFunc] := by kernel_rfl
theorem tyc_133 : tyc Try.prog 133 = some (false, 1) := by kernel_rfl
theorem zer_133 : zer Try.prog 133 = some [Go.Value.slice none 0 0] := by kernel_rfl
theorem zds_133 : zds Try.prog 133 = some [.sl 1 []] := by kernel_rfl
theorem elt_133 : elt Try.prog 133 = some (62, 1) := by kernel_rfl
theorem apf_133 : apf Try.prog 133 = some (1, 24) := by kernel_rfl
theorem tyc_134 : tyc Try.prog 134 = some (false, 1) := by kernel_rfl
theorem zer_134 : zer Try.prog 134 = some [Go.Value.nilFunc] := by kernel_rfl
theorem tyc_136 : tyc Try.prog 136 = some (false, 1) := by kernel_rfl
theorem zer_136 : zer Try.prog 136 = some [Go.Value.nilFunc] := by kernel_rfl
theorem tyc_137 : tyc Try.prog 137 = some (false, 1) := by kernel_rfl
theorem zer_137 : zer Try.prog 137 = some [Go.Value.slice none 0 0] := by kernel_rfl
theorem zds_137 : zds Try.prog 137 = some [.sl 1 []] := by kernel_rfl
theorem elt_137 : elt Try.prog 137 = some (140, 1) := by kernel_rfl
theorem apf_137 : apf Try.prog 137 = some (1, 24) := by kernel_rfl
theorem tyc_138 : tyc Try.prog 138 = some (false, 1) := by kernel_rfl
theorem zer_138 : zer Try.prog 138 = some [Go.Value.nilFunc] := by kernel_rfl
theorem tyc_139 : tyc Try.prog 139 = some (false, 1) := by kernel_rfl
theorem zer_139 : zer Try.prog 139 = some [Go.Value.nilFunc] := by kernel_rfl
theorem tyc_140 : tyc Try.prog 140 = some (false, 1) := by kernel_rfl
theorem zer_140 : zer Try.prog 140 = some [Go.Value.slice none 0 0] := by kernel_rfl
theorem zds_140 : zds Try.prog 140 = some [.sl 1 []] := by kernel_rfl
theorem elt_140 : elt Try.prog 140 = some (4, 1) := by kernel_rfl
theorem apf_140 : apf Try.prog 140 = some (1, 24) := by kernel_rfl
theorem tyc_141 : tyc Try.prog 141 = some (false, 1) := by kernel_rfl
theorem zer_141 : zer Try.prog 141 = some [Go.Value.nilFunc] := by kernel_rfl
theorem tyc_142 : tyc Try.prog 142 = some (true, 6) := by kernel_rfl
theorem zer_142 : zer Try.prog 142 = some [Go.Value.int Go.IntKind.u8 0, Go.Value.int Go.IntKind.u8 0, Go.Value.int Go.IntKind.u8 0, Go.Value.int Go.IntKind.u8 0, Go.Value.int Go.IntKind.u8 0, Go.Value.int Go.IntKind.u8 0] := by kernel_rfl
theorem zds_142 : zds Try.prog 142 = some [.v (Go.Value.int Go.IntKind.u8 0), .v (Go.Value.int Go.IntKind.u8 0), .v (Go.Value.int Go.IntKind.u8 0), .v (Go.Value.int Go.IntKind.u8 0), .v (Go.Value.int Go.IntKind.u8 0), .v (Go.Value.int Go.IntKind.u8 0)] := by kernel_rfl
theorem arr_142 : arr Try.prog 142 = some (6, 5, 1) := by kernel_rfl
theorem stf_142 : stf Try.prog 142 = none := by kernel_rfl
theorem apf_142 : apf Try.prog 142 = some (6, 6) := by kernel_rfl
theorem tyc_143 : tyc Try.prog 143 = some (false, 1) := by kernel_rfl
theorem zer_143 : zer Try.prog 143 = some [Go.Value.slice none 0 0] := by kernel_rfl
theorem zds_143 : zds Try.prog 143 = some [.sl 1 []] := by kernel_rfl
theorem elt_143 : elt Try.prog 143 = some (92, 1) := by kernel_rfl
theorem apf_143 : apf Try.prog 143 = some (1, 24) := by kernel_rfl
theorem tyc_144 : tyc Try.prog 144 = some (false, 1) := by kernel_rfl
theorem zer_144 : zer Try.prog 144 = some [Go.Value.nilFunc] := by kernel_rfl
theorem tyc_145 : tyc Try.prog 145 = some (false, 1) := by kernel_rfl
theorem zer_145 : zer Try.prog 145 = some [Go.Value.nilFunc] := by kernel_rfl
theorem tyc_146 : tyc Try.prog 146 = some (false, 1) := by kernel_rfl
theorem zer_146 : zer Try.prog 146 = some [Go.Value.nilFunc] := by kernel_rfl
theorem tyc_147 : tyc Try.prog 147 = some (false, 1) := by kernel_rfl
theorem zer_147 : zer Try.prog 147 = some [Go.Value.nilFunc] := by kernel_rfl
theorem tyc_149 : tyc Try.prog 149 = some (false, 1) := by kernel_rfl
theorem zer_149 : zer Try.prog 149 = some [Go.Value.nilFunc] := by kernel_rfl
theorem tyc_150 : tyc Try.prog 150 = some (false, 1) := by kernel_rfl
theorem zer_150 : zer Try.prog 150 = some [Go.Value.nilFunc] := by kernel_rfl
theorem tyc_151 : tyc Try.prog 151 = some (false, 1) := by kernel_rfl
theorem zer_151 : zer Try.prog 151 = some [Go.Value.nilFunc] := by kernel_rfl
theorem tyc_152 : tyc Try.prog 152 = some (false, 1) := by kernel_rfl
theorem zer_152 : zer Try.prog 152 = some [Go.Value.nilFunc] := by kernel_rfl
theorem tyc_153 : tyc Try.prog 153 = some (false, 1) := by kernel_rfl
theorem zer_153 : zer Try.prog 153 = some [Go.Value.nilFunc] := by kernel_rfl
theorem tyc_154 : tyc Try.prog 154 = some (false, 1) := by kernel_rfl
theorem zer_154 : zer Try.prog 154 = some [Go.Value.nilFunc] := by kernel_rfl
theorem tyc_155 : tyc Try.prog 155 = some (false, 1) := by kernel_rfl
theorem zer_155 : zer Try.prog 155 = some [Go.Value.nilFunc] := by kernel_rfl
theorem tyc_156 : tyc Try.prog 156 = some (false, 1) := by kernel_rfl
theorem zer_156 : zer Try.prog 156 = some [Go.Value.nilFunc] := by kernel_rfl
theorem tyc_157 : tyc Try.prog 157 = some (false, 1) := by kernel_rfl
theorem zer_157 : zer Try.prog 157 = some [Go.Value.nilFunc] := by kernel_rfl
theorem tyc_158 : tyc Try.prog 158 = some (false, 1) := by kernel_rfl
theorem zer_158 : zer Try.prog 158 = some [Go.Value.nilFunc] := by kernel_rfl
theorem tyc_159 : tyc Try.prog 159 = some (false, 1) := by kernel_rfl
theorem zer_159 : zer Try.prog 159 = some [Go.Value.nilFunc] := by kernel_rfl
theorem tyc_160 : tyc Try.prog 160 = some (false, 1) := by kernel_rfl
theorem zer_160 : zer Try.prog 160 = some [Go.Value.nilFunc] := by kernel_rfl
theorem tyc_161 : tyc Try.prog 161 = some (true, 4) := by kernel_rfl
theorem zer_161 : zer Try.prog 161 = some [Go.Value.pointer none, Go.Value.pointer none, Go.Value.pointer none, Go.Value.string { data := #[] }] := by kernel_rfl
theorem zds_161 : zds Try.prog 161 = some [.v (Go.Value.pointer none), .v (Go.Value.pointer none), .v (Go.Value.pointer none), .v (Go.Value.string { data := #[] })] := by kernel_rfl
theorem fld_161_0 : fld Try.prog 161 0 = some (0, 17) := by kernel_rfl
theorem fld_161_1 : fld Try.prog 161 1 = some (1, 17) := by kernel_rfl
theorem fld_161_2 : fld Try.prog 161 2 = some (2, 17) := by kernel_rfl
theorem fld_161_3 : fld Try.prog 161 3 = some (3, 9) := by kernel_rfl
theorem stf_161 : stf Try.prog 161 = some [(0, 1), (1, 1), (2, 1), (3, 1)] := by kernel_rfl
theorem arr_161 : arr Try.prog 161 = none := by kernel_rfl
theorem apf_161 : apf Try.prog 161 = some (4, 40) := by kernel_rfl
theorem tyc_162 : tyc Try.prog 162 = some (true, 4) := by kernel_rfl
theorem zer_162 : zer Try.prog 162 = some [Go.Value.pointer none, Go.Value.pointer none, Go.Value.pointer none, Go.Value.string { data := #[] }] := by kernel_rfl
theorem zds_162 : zds Try.prog 162 = some [.v (Go.Value.pointer none), .v (Go.Value.pointer none), .v (Go.Value.pointer none), .v (Go.Value.string { data := #[] })] := by kernel_rfl
theorem fld_162_0 : fld Try.prog 162 0 = some (0, 17) := by kernel_rfl
theorem fld_162_1 : fld Try.prog 162 1 = some (1, 17) := by kernel_rfl
theorem fld_162_2 : fld Try.prog 162 2 = some (2, 17) := by kernel_rfl
theorem fld_162_3 : fld Try.prog 162 3 = some (3, 9) := by kernel_rfl
theorem stf_162 : stf Try.prog 162 = some [(0, 1), (1, 1), (2, 1), (3, 1)] := by kernel_rfl
theorem arr_162 : arr Try.prog 162 = none := by kernel_rfl
theorem apf_162 : apf Try.prog 162 = some (4, 40) := by kernel_rfl
theorem tyc_163 : tyc Try.prog 163 = some (true, 0) := by kernel_rfl
theorem zer_163 : zer Try.prog 163 = some [] := by kernel_rfl
theorem zds_163 : zds Try.prog 163 = some [] := by kernel_rfl
theorem arr_163 : arr Try.prog 163 = some (0, 16, 1) := by kernel_rfl
theorem stf_163 : stf Try.prog 163 = none := by kernel_rfl
theorem tyc_164 : tyc Try.prog 164 = some (true, 0) := by kernel_rfl
theorem zer_164 : zer Try.prog 164 = some [] := by kernel_rfl
theorem zds_164 : zds Try.prog 164 = some [] := by kernel_rfl
theorem stf_164 : stf Try.prog 164 = some [(0, 0)] := by kernel_rfl
theorem arr_164 : arr Try.prog 164 = none := by kernel_rfl
theorem tyc_165 : tyc Try.prog 165 = some (true, 0) := by kernel_rfl
theorem zer_165 : zer Try.prog 165 = some [] := by kernel_rfl
theorem zds_165 : zds Try.prog 165 = some [] := by kernel_rfl
theorem stf_165 : stf Try.prog 165 = some [(0, 0)] := by kernel_rfl
theorem arr_165 : arr Try.prog 165 = none := by kernel_rfl
theorem tyc_166 : tyc Try.prog 166 = some (false, 1) := by kernel_rfl
theorem zer_166 : zer Try.prog 166 = some [Go.Value.nilFunc] := by kernel_rfl
theorem tyc_167 : tyc Try.prog 167 = some (false, 1) := by kernel_rfl
theorem zer_167 : zer Try.prog 167 = some [Go.Value.int Go.IntKind.u32 0] := by kernel_rfl
theorem zds_167 : zds Try.prog 167 = some [.v (Go.Value.int Go.IntKind.u32 0)] := by kernel_rfl
theorem und_167 : Try.prog.underlying 167 = some (.int .u32) := by kernel_rfl
theorem apf_167 : apf Try.prog 167 = some (1, 4) := by kernel_rfl
theorem tyc_168 : tyc Try.prog 168 = some (false, 1) := by kernel_rfl
theorem zer_168 : zer Try.prog 168 = some [Go.Value.int Go.IntKind.u8 0] := by kernel_rfl
theorem zds_168 : zds Try.prog 168 = some [.v (Go.Value.int Go.IntKind.u8 0)] := by kernel_rfl
theorem und_168 : Try.prog.underlying 168 = some (.int .u8) := by kernel_rfl
theorem apf_168 : apf Try.prog 168 = some (1, 1) := by kernel_rfl
theorem tyc_169 : tyc Try.prog 169 = some (false, 1) := by kernel_rfl
theorem zer_169 : zer Try.prog 169 = some [Go.Value.int Go.IntKind.u8 0] := by kernel_rfl
theorem zds_169 : zds Try.prog 169 = some [.v (Go.Value.int Go.IntKind.u8 0)] := by kernel_rfl
theorem und_169 : Try.prog.underlying 169 = some (.int .u8) := by kernel_rfl
theorem apf_169 : apf Try.prog 169 = some (1, 1) := by kernel_rfl
theorem tyc_170 : tyc Try.prog 170 = some (false, 1) := by kernel_rfl
theorem zer_170 : zer Try.prog 170 = some [Go.Value.nilFunc] := by kernel_rfl
theorem tyc_171 : tyc Try.prog 171 = some (false, 1) := by kernel_rfl
theorem zer_171 : zer Try.prog 171 = some [Go.Value.pointer none] := by kernel_rfl
theorem zds_171 : zds Try.prog 171 = some [.v (Go.Value.pointer none)] := by kernel_rfl
theorem apf_171 : apf Try.prog 171 = some (1, 8) := by kernel_rfl
theorem tyc_172 : tyc Try.prog 172 = some (false, 1) := by kernel_rfl
theorem zer_172 : zer Try.prog 172 = some [Go.Value.int Go.IntKind.i32 0] := by kernel_rfl
theorem zds_172 : zds Try.prog 172 = some [.v (Go.Value.int Go.IntKind.i32 0)] := by kernel_rfl
theorem und_172 : Try.prog.underlying 172 = some (.int .i32) := by kernel_rfl
theorem apf_172 : apf Try.prog 172 = some (1, 4) := by kernel_rfl
theorem tyc_173 : tyc Try.prog 173 = some (false, 1) := by kernel_rfl
theorem zer_173 : zer Try.prog 173 = some [Go.Value.int Go.IntKind.i32 0] := by kernel_rfl
theorem zds_173 : zds Try.prog 173 = some [.v (Go.Value.int Go.IntKind.i32 0)] := by kernel_rfl
theorem und_173 : Try.prog.underlying 173 = some (.int .i32) := by kernel_rfl
theorem apf_173 : apf Try.prog 173 = some (1, 4) := by kernel_rfl
theorem tyc_174 : tyc Try.prog 174 = some (true, 11) := by kernel_rfl
theorem zer_174 : zer Try.prog 174 = some [Go.Value.int Go.IntKind.u64 0, Go.Value.int Go.IntKind.u64 0, Go.Value.int Go.IntKind.u32 0, Go.Value.int Go.IntKind.u8 0, Go.Value.int Go.IntKind.u8 0, Go.Value.int Go.IntKind.u8 0, Go.Value.int Go.IntKind.u8 0, Go.Value.nilFunc, Go.Value.pointer none, Go.Value.int Go.IntKind.i32 0, Go.Value.int Go.IntKind.i32 0] := by kernel_rfl
theorem zds_174 : zds Try.prog 174 = some [.v (Go.Value.int Go.IntKind.u64 0), .v (Go.Value.int Go.IntKind.u64 0), .v (Go.Value.int Go.IntKind.u32 0), .v (Go.Value.int Go.IntKind.u8 0), .v (Go.Value.int Go.IntKind.u8 0), .v (Go.Value.int Go.IntKind.u8 0), .v (Go.Value.int Go.IntKind.u8 0), .v (Go.Value.nilFunc), .v (Go.Value.pointer none), .v (Go.Value.int Go.IntKind.i32 0), .v (Go.Value.int Go.IntKind.i32 0)] := by kernel_rfl
theorem fld_174_0 : fld Try.prog 174 0 = some (0, 12) := by kernel_rfl
theorem fld_174_1 : fld Try.prog 174 1 = some (1, 12) := by kernel_rfl
theorem fld_174_2 : fld Try.prog 174 2 = some (2, 167) := by kernel_rfl
theorem fld_174_3 : fld Try.prog 174 3 = some (3, 168) := by kernel_rfl
theorem fld_174_4 : fld Try.prog 174 4 = some (4, 5) := by kernel_rfl
theorem fld_174_5 : fld Try.prog 174 5 = some (5, 5) := by kernel_rfl
theorem fld_174_6 : fld Try.prog 174 6 = some (6, 169) := by kernel_rfl
theorem fld_174_7 : fld Try.prog 174 7 = some (7, 170) := by kernel_rfl
theorem fld_174_8 : fld Try.prog 174 8 = some (8, 171) := by kernel_rfl
theorem fld_174_9 : fld Try.prog 174 9 = some (9, 172) := by kernel_rfl
theorem fld_174_10 : fld Try.prog 174 10 = some (10, 173) := by kernel_rfl
theorem stf_174 : stf Try.prog 174 = some [(0, 1), (1, 1), (2, 1), (3, 1), (4, 1), (5, 1), (6, 1), (7, 1), (8, 1), (9, 1), (10, 1)] := by kernel_rfl
theorem arr_174 : arr Try.prog 174 = none := by kernel_rfl
theorem apf_174 : apf Try.prog 174 = some (11, 48) := by kernel_rfl
theorem tyc_175 : tyc Try.prog 175 = some (true, 11) := by kernel_rfl
theorem zer_175 : zer Try.prog 175 = some [Go.Value.int Go.IntKind.u64 0, Go.Value.int Go.IntKind.u64 0, Go.Value.int Go.IntKind.u32 0, Go.Value.int Go.IntKind.u8 0, Go.Value.int Go.IntKind.u8 0, Go.Value.int Go.IntKind.u8 0, Go.Value.int Go.IntKind.u8 0, Go.Value.nilFunc, Go.Value.pointer none, Go.Value.int Go.IntKind.i32 0, Go.Value.int Go.IntKind.i32 0] := by kernel_rfl
theorem zds_175 : zds Try.prog 175 = some [.v (Go.Value.int Go.IntKind.u64 0), .v (Go.Value.int Go.IntKind.u64 0), .v (Go.Value.int Go.IntKind.u32 0), .v (Go.Value.int Go.IntKind.u8 0), .v (Go.Value.int Go.IntKind.u8 0), .v (Go.Value.int Go.IntKind.u8 0), .v (Go.Value.int Go.IntKind.u8 0), .v (Go.Value.nilFunc), .v (Go.Value.pointer none), .v (Go.Value.int Go.IntKind.i32 0), .v (Go.Value.int Go.IntKind.i32 0)] := by kernel_rfl
theorem fld_175_0 : fld Try.prog 175 0 = some (0, 12) := by kernel_rfl
theorem fld_175_1 : fld Try.prog 175 1 = some (1, 12) := by kernel_rfl
theorem fld_175_2 : fld Try.prog 175 2 = some (2, 167) := by kernel_rfl
theorem fld_175_3 : fld Try.prog 175 3 = some (3, 168) := by kernel_rfl
theorem fld_175_4 : fld Try.prog 175 4 = some (4, 5) := by kernel_rfl
theorem fld_175_5 : fld Try.prog 175 5 = some (5, 5) := by kernel_rfl
theorem fld_175_6 : fld Try.prog 175 6 = some (6, 169) := by kernel_rfl
theorem fld_175_7 : fld Try.prog 175 7 = some (7, 170) := by kernel_rfl
theorem fld_175_8 : fld Try.prog 175 8 = some (8, 171) := by kernel_rfl
theorem fld_175_9 : fld Try.prog 175 9 = some (9, 172) := by kernel_rfl
theorem fld_175_10 : fld Try.prog 175 10 = some (10, 173) := by kernel_rfl
theorem stf_175 : stf Try.prog 175 = some [(0, 1), (1, 1), (2, 1), (3, 1), (4, 1), (5, 1), (6, 1), (7, 1), (8, 1), (9, 1), (10, 1)] := by kernel_rfl
theorem arr_175 : arr Try.prog 175 = none := by kernel_rfl
theorem apf_175 : apf Try.prog 175 = some (11, 48) := by kernel_rfl
theorem zro_31 : zro Try.prog 31 = some (Go.Value.slice none 0 0) := by kernel_rfl
theorem fun_0 : Try.prog.funcs[0]? = some Try.f0 := by kernel_rfl
theorem fun_1 : Try.prog.funcs[1]? = some Try.f1 := by kernel_rfl
theorem fun_2 : Try.prog.funcs[2]? = some Try.f2 := by kernel_rfl
theorem fun_3 : Try.prog.funcs[3]? = some Try.f3 := by kernel_rfl
theorem fun_4 : Try.prog.funcs[4]? = some Try.f4 := by kernel_rfl
theorem fun_5 : Try.prog.funcs[5]? = some Try.f5 := by kernel_rfl
theorem fun_6 : Try.prog.funcs[6]? = some Try.f6 := by kernel_rfl
theorem fun_7 : Try.prog.funcs[7]? = some Try.f7 := by kernel_rfl
theorem fun_8 : Try.prog.funcs[8]? = some Try.f8 := by kernel_rfl
theorem fun_9 : Try.prog.funcs[9]? = some Try.f9 := by kernel_rfl
theorem fun_10 : Try.prog.funcs[10]? = some Try.f10 := by kernel_rfl
theorem fun_11 : Try.prog.funcs[11]? = some Try.f11 := by kernel_rfl
theorem fun_12 : Try.prog.funcs[12]? = some Try.f12 := by kernel_rfl
theorem fun_13 : Try.prog.funcs[13]? = some Try.f13 := by kernel_rfl
theorem fun_14 : Try.prog.funcs[14]? = some Try.f14 := by kernel_rfl
theorem fun_15 : Try.prog.funcs[15]? = some Try.f15 := by kernel_rfl
theorem fun_16 : Try.prog.funcs[16]? = some Try.f16 := by kernel_rfl
theorem fun_17 : Try.prog.funcs[17]? = some Try.f17 := by kernel_rfl
theorem fun_18 : Try.prog.funcs[18]? = some Try.f18 := by kernel_rfl
theorem fun_19 : Try.prog.funcs[19]? = some Try.f19 := by kernel_rfl
theorem fun_20 : Try.prog.funcs[20]? = some Try.f20 := by kernel_rfl
theorem fun_21 : Try.prog.funcs[21]? = some Try.f21 := by kernel_rfl
theorem fun_22 : Try.prog.funcs[22]? = some Try.f22 := by kernel_rfl
theorem fun_23 : Try.prog.funcs[23]? = some Try.f23 := by kernel_rfl
theorem fun_24 : Try.prog.funcs[24]? = some Try.f24 := by kernel_rfl
theorem fun_25 : Try.prog.funcs[25]? = some Try.f25 := by kernel_rfl
theorem fun_26 : Try.prog.funcs[26]? = some Try.f26 := by kernel_rfl
theorem fun_27 : Try.prog.funcs[27]? = some Try.f27 := by kernel_rfl
theorem fun_28 : Try.prog.funcs[28]? = some Try.f28 := by kernel_rfl
theorem fun_29 : Try.prog.funcs[29]? = some Try.f29 := by kernel_rfl
theorem fun_30 : Try.prog.funcs[30]? = some Try.f30 := by kernel_rfl
theorem fun_31 : Try.prog.funcs[31]? = some Try.f31 := by kernel_rfl
theorem fun_32 : Try.prog.funcs[32]? = some Try.f32 := by kernel_rfl
theorem fun_33 : Try.prog.funcs[33]? = some Try.f33 := by kernel_rfl
theorem fun_34 : Try.prog.funcs[34]? = some Try.f34 := by kernel_rfl
theorem fun_35 : Try.prog.funcs[35]? = some Try.f35 := by kernel_rfl
theorem fun_36 : Try.prog.funcs[36]? = some Try.f36 := by kernel_rfl
theorem fun_37 : Try.prog.funcs[37]? = some Try.f37 := by kernel_rfl
theorem fun_38 : Try.prog.funcs[38]? = some Try.f38 := by kernel_rfl
theorem fun_39 : Try.prog.funcs[39]? = some Try.f39 := by kernel_rfl
theorem fun_40 : Try.prog.funcs[40]? = some Try.f40 := by kernel_rfl
theorem fun_41 : Try.prog.funcs[41]? = some Try.f41 := by kernel_rfl
theorem fun_42 : Try.prog.funcs[42]? = some Try.f42 := by kernel_rfl
theorem fun_43 : Try.prog.funcs[43]? = some Try.f43 := by kernel_rfl
theorem fun_44 : Try.prog.funcs[44]? = some Try.f44 := by kernel_rfl
theorem fun_45 : Try.prog.funcs[45]? = some Try.f45 := by kernel_rfl
theorem fun_46 : Try.prog.funcs[46]? = some Try.f46 := by kernel_rfl
theorem fun_47 : Try.prog.funcs[47]? = some Try.f47 := by kernel_rfl
theorem fun_48 : Try.prog.funcs[48]? = some Try.f48 := by kernel_rfl
theorem fun_49 : Try.prog.funcs[49]? = some Try.f49 := by kernel_rfl
theorem fun_50 : Try.prog.funcs[50]? = some Try.f50 := by kernel_rfl
theorem fun_51 : Try.prog.funcs[51]? = some Try.f51 := by kernel_rfl
theorem fun_52 : Try.prog.funcs[52]? = some Try.f52 := by kernel_rfl
theorem fun_53 : Try.prog.funcs[53]? = some Try.f53 := by kernel_rfl
theorem fun_54 : Try.prog.funcs[54]? = some Try.f54 := by kernel_rfl
theorem fun_55 : Try.prog.funcs[55]? = some Try.f55 := by kernel_rfl
theorem fun_56 : Try.prog.funcs[56]? = some Try.f56 := by kernel_rfl
theorem fun_57 : Try.prog.funcs[57]? = some Try.f57 := by kernel_rfl
theorem fun_58 : Try.prog.funcs[58]? = some Try.f58 := by kernel_rfl
theorem fun_59 : Try.prog.funcs[59]? = some Try.f59 := by kernel_rfl
theorem fun_60 : Try.prog.funcs[60]? = some Try.f60 := by kernel_rfl
theorem fun_61 : Try.prog.funcs[61]? = some Try.f61 := by kernel_rfl
theorem fun_62 : Try.prog.funcs[62]? = some Try.f62 := by kernel_rfl
theorem fun_63 : Try.prog.funcs[63]? = some Try.f63 := by kernel_rfl
theorem fun_64 : Try.prog.funcs[64]? = some Try.f64 := by kernel_rfl
theorem fun_65 : Try.prog.funcs[65]? = some Try.f65 := by kernel_rfl
theorem fun_66 : Try.prog.funcs[66]? = some Try.f66 := by kernel_rfl
theorem fun_67 : Try.prog.funcs[67]? = some Try.f67 := by kernel_rfl
theorem fun_68 : Try.prog.funcs[68]? = some Try.f68 := by kernel_rfl
theorem fun_69 : Try.prog.funcs[69]? = some Try.f69 := by kernel_rfl
theorem fun_70 : Try.prog.funcs[70]? = some Try.f70 := by kernel_rfl
theorem fun_71 : Try.prog.funcs[71]? = some Try.f71 := by kernel_rfl
theorem fun_72 : Try.prog.funcs[72]? = some Try.f72 := by kernel_rfl
theorem fun_73 : Try.prog.funcs[73]? = some Try.f73 := by kernel_rfl
theorem fun_74 : Try.prog.funcs[74]? = some Try.f74 := by kernel_rfl
theorem fun_75 : Try.prog.funcs[75]? = some Try.f75 := by kernel_rfl
theorem fun_76 : Try.prog.funcs[76]? = some Try.f76 := by kernel_rfl
theorem fun_77 : Try.prog.funcs[77]? = some Try.f77 := by kernel_rfl
theorem fun_78 : Try.prog.funcs[78]? = some Try.f78 := by kernel_rfl
theorem fun_79 : Try.prog.funcs[79]? = some Try.f79 := by kernel_rfl
theorem fun_80 : Try.prog.funcs[80]? = some Try.f80 := by kernel_rfl
theorem fun_81 : Try.prog.funcs[81]? = some Try.f81 := by kernel_rfl
theorem fun_82 : Try.prog.funcs[82]? = some Try.f82 := by kernel_rfl
theorem fun_83 : Try.prog.funcs[83]? = some Try.f83 := by kernel_rfl
theorem fun_84 : Try.prog.funcs[84]? = some Try.f84 := by kernel_rfl
theorem fun_85 : Try.prog.funcs[85]? = some Try.f85 := by kernel_rfl
theorem fun_86 : Try.prog.funcs[86]? = some Try.f86 := by kernel_rfl
theorem fun_87 : Try.prog.funcs[87]? = some Try.f87 := by kernel_rfl
theorem fun_88 : Try.prog.funcs[88]? = some Try.f88 := by kernel_rfl
theorem fun_89 : Try.prog.funcs[89]? = some Try.f89 := by kernel_rfl
theorem fun_90 : Try.prog.funcs[90]? = some Try.f90 := by kernel_rfl
theorem fun_91 : Try.prog.funcs[91]? = some Try.f91 := by kernel_rfl
theorem fun_92 : Try.prog.funcs[92]? = some Try.f92 := by kernel_rfl
theorem fun_93 : Try.prog.funcs[93]? = some Try.f93 := by kernel_rfl
theorem fun_94 : Try.prog.funcs[94]? = some Try.f94 := by kernel_rfl
theorem fun_95 : Try.prog.funcs[95]? = some Try.f95 := by kernel_rfl
theorem fun_96 : Try.prog.funcs[96]? = some Try.f96 := by kernel_rfl
theorem fun_97 : Try.prog.funcs[97]? = some Try.f97 := by kernel_rfl
theorem fun_98 : Try.prog.funcs[98]? = some Try.f98 := by kernel_rfl
theorem fun_99 : Try.prog.funcs[99]? = some Try.f99 := by kernel_rfl
theorem fun_100 : Try.prog.funcs[100]? = some Try.f100 := by kernel_rfl
theorem fun_101 : Try.prog.funcs[101]? = some Try.f101 := by kernel_rfl
theorem fun_102 : Try.prog.funcs[102]? = some Try.f102 := by kernel_rfl
theorem fun_103 : Try.prog.funcs[103]? = some Try.f103 := by kernel_rfl
theorem fun_104 : Try.prog.funcs[104]? = some Try.f104 := by kernel_rfl
theorem fun_105 : Try.prog.funcs[105]? = some Try.f105 := by kernel_rfl
theorem fun_106 : Try.prog.funcs[106]? = some Try.f106 := by kernel_rfl
theorem fun_107 : Try.prog.funcs[107]? = some Try.f107 := by kernel_rfl
theorem fun_108 : Try.prog.funcs[108]? = some Try.f108 := by kernel_rfl
theorem fun_109 : Try.prog.funcs[109]? = some Try.f109 := by kernel_rfl
theorem fun_110 : Try.prog.funcs[110]? = some Try.f110 := by kernel_rfl
theorem fun_111 : Try.prog.funcs[111]? = some Try.f111 := by kernel_rfl
def fA0 := (And.intro (And.intro (And.intro (And.intro (And.intro (And.intro (And.intro (And.intro (And.intro @tyc_1 @zer_1) (And.intro @tyc_2 (And.intro @zer_2 @zds_2))) (And.intro (And.intro @und_2 @apf_2) (And.intro @tyc_3 (And.intro @zer_3 @zds_3)))) (And.intro (And.intro (And.intro @und_3 @apf_3) (And.intro @tyc_4 (And.intro @zer_4 @zds_4))) (And.intro (And.intro @und_4 (And.intro @apf_4 @tyc_5)) (And.intro @zer_5 (And.intro @zds_5 @und_5))))) (And.intro (And.intro (And.intro (And.intro @apf_5 @tyc_6) (And.intro @zer_6 (And.intro @zds_6 @und_6))) (And.intro (And.intro @apf_6 @tyc_7) (And.intro @zer_7 (And.intro @zds_7 @fld_7_0)))) (And.intro (And.intro (And.intro @fld_7_1 @fld_7_2) (And.intro @fld_7_3 (And.intro @stf_7 @arr_7))) (And.intro (And.intro @apf_7 (And.intro @tyc_8 @zer_8)) (And.intro @zds_8 (And.intro @fld_8_0 @fld_8_1)))))) (And.intro (And.intro (And.intro (And.intro (And.intro @fld_8_2 @fld_8_3) (And.intro @stf_8 (And.intro @arr_8 @apf_8))) (And.intro (And.intro @tyc_9 @zer_9) (And.intro @zds_9 (And.intro @apf_9 @tyc_10)))) (And.intro (And.intro (And.intro @zer_10 @zds_10) (And.intro @apf_10 (And.intro @tyc_11 @zer_11))) (And.intro (And.intro @zds_11 (And.intro @apf_11 @tyc_12)) (And.intro @zer_12 (And.intro @zds_12 @und_12))))) (And.intro (And.intro (And.intro (And.intro @apf_12 @tyc_13) (And.intro @zer_13 (And.intro @zds_13 @fld_13_0))) (And.intro (And.intro @fld_13_1 (And.intro @stf_13 @arr_13)) (And.intro @apf_13 (And.intro @tyc_14 @zer_14)))) (And.intro (And.intro (And.intro @zds_14 @fld_14_0) (And.intro @fld_14_1 (And.intro @stf_14 @arr_14))) (And.intro (And.intro @apf_14 (And.intro @tyc_15 @zer_15)) (And.intro @zds_15 (And.intro @apf_15 @tyc_16))))))) (And.intro (And.intro (And.intro (And.intro (And.intro (And.intro @zer_16 @zds_16) (And.intro @apf_16 (And.intro @tyc_17 @zer_17))) (And.intro (And.intro @zds_17 @apf_17) (And.intro @tyc_18 (And.intro @zer_18 @zds_18)))) (And.intro (And.intro (And.intro @fld_18_0 @stf_18) (And.intro @arr_18 (And.intro @apf_18 @tyc_19))) (And.intro (And.intro @zer_19 (And.intro @zds_19 @fld_19_0)) (And.intro @stf_19 (And.intro @arr_19 @apf_19))))) (And.intro (And.intro (And.intro (And.intro @tyc_21 @zer_21) (And.intro @zds_21 (And.intro @und_21 @apf_21))) (And.intro (And.intro @tyc_22 @zer_22) (And.intro @zds_22 (And.intro @elt_22 @apf_22)))) (And.intro (And.intro (And.intro @tyc_23 @zer_23) (And.intro @zds_23 (And.intro @elt_23 @apf_23))) (And.intro (And.intro @tyc_24 (And.intro @zer_24 @zds_24)) (And.intro @fld_24_0 (And.intro @fld_24_1 @fld_24_2)))))) (And.intro (And.intro (And.intro (And.intro (And.intro @fld_24_3 @stf_24) (And.intro @arr_24 (And.intro @apf_24 @tyc_25))) (And.intro (And.intro @zer_25 @zds_25) (And.intro @fld_25_0 (And.intro @fld_25_1 @fld_25_2)))) (And.intro (And.intro (And.intro @fld_25_3 @stf_25) (And.intro @arr_25 (And.intro @apf_25 @tyc_26))) (And.intro (And.intro @zer_26 (And.intro @zds_26 @fld_26_0)) (And.intro @fld_26_1 (And.intro @fld_26_2 @fld_26_3))))) (And.intro (And.intro (And.intro (And.intro @stf_26 @arr_26) (And.intro @apf_26 (And.intro @tyc_27 @zer_27))) (And.intro (And.intro @zds_27 (And.intro @fld_27_0 @fld_27_1)) (And.intro @fld_27_2 (And.intro @fld_27_3 @stf_27)))) (And.intro (And.intro (And.intro @arr_27 @apf_27) (And.intro @tyc_28 (And.intro @zer_28 @tyc_29))) (And.intro (And.intro @zer_29 (And.intro @tyc_30 @zer_30)) (And.intro @tyc_31 (And.intro @zer_31 @zds_31)))))))) (And.intro (And.intro (And.intro (And.intro (And.intro (And.intro (And.intro @elt_31 @apf_31) (And.intro @tyc_32 (And.intro @zer_32 @zds_32))) (And.intro (And.intro @und_32 @apf_32) (And.intro @tyc_34 (And.intro @zer_34 @tyc_35)))) (And.intro (And.intro (And.intro @zer_35 @tyc_36) (And.intro @zer_36 (And.intro @tyc_38 @zer_38))) (And.intro (And.intro @tyc_39 (And.intro @zer_39 @tyc_40)) (And.intro @zer_40 (And.intro @tyc_41 @zer_41))))) (And.intro (And.intro (And.intro (And.intro @zds_41 @fld_41_0) (And.intro @fld_41_1 (And.intro @stf_41 @arr_41))) (And.intro (And.intro @apf_41 @tyc_42) (And.intro @zer_42 (And.intro @zds_42 @fld_42_0)))) (And.intro (And.intro (And.intro @fld_42_1 @stf_42) (And.intro @arr_42 (And.intro @apf_42 @tyc_44))) (And.intro (And.intro @zer_44 (And.intro @tyc_45 @zer_45)) (And.intro @tyc_46 (And.intro @zer_46 @tyc_47)))))) (And.intro (And.intro (And.intro (And.intro (And.intro @zer_47 @zds_47) (And.intro @fld_47_0 (And.intro @fld_47_1 @fld_47_2))) (And.intro (And.intro @stf_47 @arr_47) (And.intro @apf_47 (And.intro @tyc_48 @zer_48)))) (And.intro (And.intro (And.intro @zds_48 @fld_48_0) (And.intro @fld_48_1 (And.intro @fld_48_2 @stf_48))) (And.intro (And.intro @arr_48 (And.intro @apf_48 @tyc_49)) (And.intro @zer_49 (And.intro @tyc_50 @zer_50))))) (And.intro (And.intro (And.intro (And.intro @tyc_51 @zer_51) (And.intro @zds_51 (And.intro @elt_51 @apf_51))) (And.intro (And.intro @tyc_52 (And.intro @zer_52 @zds_52)) (And.intro @elt_52 (And.intro @apf_52 @tyc_53)))) (And.intro (And.intro (And.intro @zer_53 @zds_53) (And.intro @arr_53 (And.intro @stf_53 @apf_53))) (And.intro (And.intro @tyc_54 (And.intro @zer_54 @zds_54)) (And.intro @fld_54_0 (And.intro @fld_54_1 @fld_54_2))))))) (And.intro (And.intro (And.intro (And.intro (And.intro (And.intro @fld_54_3 @stf_54) (And.intro @arr_54 (And.intro @apf_54 @tyc_55))) (And.intro (And.intro @zer_55 @zds_55) (And.intro @fld_55_0 (And.intro @fld_55_1 @fld_55_2)))) (And.intro (And.intro (And.intro @fld_55_3 @stf_55) (And.intro @arr_55 (And.intro @apf_55 @tyc_56))) (And.intro (And.intro @zer_56 (And.intro @zds_56 @elt_56)) (And.intro @apf_56 (And.intro @tyc_57 @zer_57))))) (And.intro (And.intro (And.intro (And.intro @zds_57 @elt_57) (And.intro @apf_57 (And.intro @tyc_58 @zer_58))) (And.intro (And.intro @zds_58 (And.intro @fld_58_0 @fld_58_1)) (And.intro @fld_58_2 (And.intro @stf_58 @arr_58)))) (And.intro (And.intro (And.intro @apf_58 @tyc_59) (And.intro @zer_59 (And.intro @zds_59 @fld_59_0))) (And.intro (And.intro @fld_59_1 (And.intro @fld_59_2 @stf_59)) (And.intro @arr_59 (And.intro @apf_59 @tyc_61)))))) (And.intro (And.intro (And.intro (And.intro (And.intro @zer_61 @tyc_62) (And.intro @zer_62 (And.intro @zds_62 @elt_62))) (And.intro (And.intro @apf_62 @tyc_64) (And.intro @zer_64 (And.intro @tyc_65 @zer_65)))) (And.intro (And.intro (And.intro @tyc_67 @zer_67) (And.intro @tyc_69 (And.intro @zer_69 @tyc_70))) (And.intro (And.intro @zer_70 (And.intro @tyc_72 @zer_72)) (And.intro @tyc_73 (And.intro @zer_73 @tyc_74))))) (And.intro (And.intro (And.intro (And.intro @zer_74 @tyc_75) (And.intro @zer_75 (And.intro @tyc_76 @zer_76))) (And.intro (And.intro @tyc_77 (And.intro @zer_77 @tyc_78)) (And.intro @zer_78 (And.intro @tyc_80 @zer_80)))) (And.intro (And.intro (And.intro @tyc_81 @zer_81) (And.intro @tyc_82 (And.intro @zer_82 @tyc_83))) (And.intro (And.intro @zer_83 (And.intro @tyc_84 @zer_84)) (And.intro @zds_84 (And.intro @fld_84_0 @fld_84_1))))))))) (And.intro (And.intro (And.intro (And.intro (And.intro (And.intro (And.intro (And.intro @stf_84 @arr_84) (And.intro @apf_84 (And.intro @tyc_85 @zer_85))) (And.intro (And.intro @zds_85 @fld_85_0) (And.intro @fld_85_1 (And.intro @stf_85 @arr_85)))) (And.intro (And.intro (And.intro @apf_85 @tyc_86) (And.intro @zer_86 (And.intro @tyc_87 @zer_87))) (And.intro (And.intro @zds_87 (And.intro @fld_87_0 @fld_87_1)) (And.intro @fld_87_2 (And.intro @stf_87 @arr_87))))) (And.intro (And.intro (And.intro (And.intro @apf_87 @tyc_88) (And.intro @zer_88 (And.intro @zds_88 @fld_88_0))) (And.intro (And.intro @fld_88_1 @fld_88_2) (And.intro @stf_88 (And.intro @arr_88 @apf_88)))) (And.intro (And.intro (And.intro @tyc_90 @zer_90) (And.intro @tyc_91 (And.intro @zer_91 @tyc_92))) (And.intro (And.intro @zer_92 (And.intro @zds_92 @elt_92)) (And.intro @apf_92 (And.intro @tyc_93 @zer_93)))))) (And.intro (And.intro (And.intro (And.intro (And.intro @zds_93 @fld_93_0) (And.intro @fld_93_1 (And.intro @fld_93_2 @stf_93))) (And.intro (And.intro @arr_93 @apf_93) (And.intro @tyc_94 (And.intro @zer_94 @zds_94)))) (And.intro (And.intro (And.intro @fld_94_0 @fld_94_1) (And.intro @fld_94_2 (And.intro @stf_94 @arr_94))) (And.intro (And.intro @apf_94 (And.intro @tyc_95 @zer_95)) (And.intro @tyc_96 (And.intro @zer_96 @tyc_97))))) (And.intro (And.intro (And.intro (And.intro @zer_97 @tyc_98) (And.intro @zer_98 (And.intro @tyc_99 @zer_99))) (And.intro (And.intro @zds_99 (And.intro @fld_99_0 @fld_99_1)) (And.intro @fld_99_2 (And.intro @stf_99 @arr_99)))) (And.intro (And.intro (And.intro @apf_99 @tyc_100) (And.intro @zer_100 (And.intro @zds_100 @fld_100_0))) (And.intro (And.intro @fld_100_1 (And.intro @fld_100_2 @stf_100)) (And.intro @arr_100 (And.intro @apf_100 @tyc_101))))))) (And.intro (And.intro (And.intro (And.intro (And.intro (And.intro @zer_101 @tyc_102) (And.intro @zer_102 (And.intro @tyc_103 @zer_103))) (And.intro (And.intro @zds_103 @elt_103) (And.intro @apf_103 (And.intro @tyc_104 @zer_104)))) (And.intro (And.intro (And.intro @tyc_105 @zer_105) (And.intro @tyc_106 (And.intro @zer_106 @tyc_107))) (And.intro (And.intro @zer_107 (And.intro @tyc_108 @zer_108)) (And.intro @tyc_109 (And.intro @zer_109 @tyc_111))))) (And.intro (And.intro (And.intro (And.intro @zer_111 @tyc_112) (And.intro @zer_112 (And.intro @zds_112 @arr_112))) (And.intro (And.intro @stf_112 @apf_112) (And.intro @tyc_113 (And.intro @zer_113 @zds_113)))) (And.intro (And.intro (And.intro @arr_113 @stf_113) (And.intro @apf_113 (And.intro @tyc_115 @zer_115))) (And.intro (And.intro @tyc_116 (And.intro @zer_116 @tyc_117)) (And.intro @zer_117 (And.intro @zds_117 @fld_117_0)))))) (And.intro (And.intro (And.intro (And.intro (And.intro @fld_117_1 @stf_117) (And.intro @arr_117 (And.intro @apf_117 @tyc_118))) (And.intro (And.intro @zer_118 @zds_118) (And.intro @fld_118_0 (And.intro @fld_118_1 @stf_118)))) (And.intro (And.intro (And.intro @arr_118 @apf_118) (And.intro @tyc_119 (And.intro @zer_119 @tyc_120))) (And.intro (And.intro @zer_120 (And.intro @tyc_121 @zer_121)) (And.intro @tyc_122 (And.intro @zer_122 @tyc_123))))) (And.intro (And.intro (And.intro (And.intro @zer_123 @tyc_124) (And.intro @zer_124 (And.intro @tyc_125 @zer_125))) (And.intro (And.intro @tyc_126 (And.intro @zer_126 @tyc_127)) (And.intro @zer_127 (And.intro @tyc_128 @zer_128)))) (And.intro (And.intro (And.intro @tyc_129 @zer_129) (And.intro @tyc_130 (And.intro @zer_130 @tyc_131))) (And.intro (And.intro @zer_131 (And.intro @zds_131 @mpt_131)) (And.intro @apf_131 (And.intro @tyc_132 @zer_132)))))))) (And.intro (And.intro (And.intro (And.intro (And.intro (And.intro (And.intro @tyc_133 @zer_133) (And.intro @zds_133 (And.intro @elt_133 @apf_133))) (And.intro (And.intro @tyc_134 @zer_134) (And.intro @tyc_136 (And.intro @zer_136 @tyc_137)))) (And.intro (And.intro (And.intro @zer_137 @zds_137) (And.intro @elt_137 (And.intro @apf_137 @tyc_138))) (And.intro (And.intro @zer_138 (And.intro @tyc_139 @zer_139)) (And.intro @tyc_140 (And.intro @zer_140 @zds_140))))) (And.intro (And.intro (And.intro (And.intro @elt_140 @apf_140) (And.intro @tyc_141 (And.intro @zer_141 @tyc_142))) (And.intro (And.intro @zer_142 @zds_142) (And.intro @arr_142 (And.intro @stf_142 @apf_142)))) (And.intro (And.intro (And.intro @tyc_143 @zer_143) (And.intro @zds_143 (And.intro @elt_143 @apf_143))) (And.intro (And.intro @tyc_144 (And.intro @zer_144 @tyc_145)) (And.intro @zer_145 (And.intro @tyc_146 @zer_146)))))) (And.intro (And.intro (And.intro (And.intro (And.intro @tyc_147 @zer_147) (And.intro @tyc_149 (And.intro @zer_149 @tyc_150))) (And.intro (And.intro @zer_150 @tyc_151) (And.intro @zer_151 (And.intro @tyc_152 @zer_152)))) (And.intro (And.intro (And.intro @tyc_153 @zer_153) (And.intro @tyc_154 (And.intro @zer_154 @tyc_155))) (And.intro (And.intro @zer_155 (And.intro @tyc_156 @zer_156)) (And.intro @tyc_157 (And.intro @zer_157 @tyc_158))))) (And.intro (And.intro (And.intro (And.intro @zer_158 @tyc_159) (And.intro @zer_159 (And.intro @tyc_160 @zer_160))) (And.intro (And.intro @tyc_161 (And.intro @zer_161 @zds_161)) (And.intro @fld_161_0 (And.intro @fld_161_1 @fld_161_2)))) (And.intro (And.intro (And.intro @fld_161_3 @stf_161) (And.intro @arr_161 (And.intro @apf_161 @tyc_162))) (And.intro (And.intro @zer_162 (And.intro @zds_162 @fld_162_0)) (And.intro @fld_162_1 (And.intro @fld_162_2 @fld_162_3))))))) (And.intro (And.intro (And.intro (And.intro (And.intro (And.intro @stf_162 @arr_162) (And.intro @apf_162 (And.intro @tyc_163 @zer_163))) (And.intro (And.intro @zds_163 @arr_163) (And.intro @stf_163 (And.intro @tyc_164 @zer_164)))) (And.intro (And.intro (And.intro @zds_164 @stf_164) (And.intro @arr_164 (And.intro @tyc_165 @zer_165))) (And.intro (And.intro @zds_165 (And.intro @stf_165 @arr_165)) (And.intro @tyc_166 (And.intro @zer_166 @tyc_167))))) (And.intro (And.intro (And.intro (And.intro @zer_167 @zds_167) (And.intro @und_167 (And.intro @apf_167 @tyc_168))) (And.intro (And.intro @zer_168 (And.intro @zds_168 @und_168)) (And.intro @apf_168 (And.intro @tyc_169 @zer_169)))) (And.intro (And.intro (And.intro @zds_169 @und_169) (And.intro @apf_169 (And.intro @tyc_170 @zer_170))) (And.intro (And.intro @tyc_171 (And.intro @zer_171 @zds_171)) (And.intro @apf_171 (And.intro @tyc_172 @zer_172)))))) (And.intro (And.intro (And.intro (And.intro (And.intro @zds_172 @und_172) (And.intro @apf_172 (And.intro @tyc_173 @zer_173))) (And.intro (And.intro @zds_173 @und_173) (And.intro @apf_173 (And.intro @tyc_174 @zer_174)))) (And.intro (And.intro (And.intro @zds_174 @fld_174_0) (And.intro @fld_174_1 (And.intro @fld_174_2 @fld_174_3))) (And.intro (And.intro @fld_174_4 (And.intro @fld_174_5 @fld_174_6)) (And.intro @fld_174_7 (And.intro @fld_174_8 @fld_174_9))))) (And.intro (And.intro (And.intro (And.intro @fld_174_10 @stf_174) (And.intro @arr_174 (And.intro @apf_174 @tyc_175))) (And.intro (And.intro @zer_175 (And.intro @zds_175 @fld_175_0)) (And.intro @fld_175_1 (And.intro @fld_175_2 @fld_175_3)))) (And.intro (And.intro (And.intro @fld_175_4 @fld_175_5) (And.intro @fld_175_6 (And.intro @fld_175_7 @fld_175_8))) (And.intro (And.intro @fld_175_9 (And.intro @fld_175_10 @stf_175)) (And.intro @arr_175 (And.intro @apf_175 @zro_31))))))))))
theorem fA : type_of% fA0 := fA0
end Go.Proofs.Ytafpicjnccffgaa.Ab
