/- Facts of the seat: its types and its functions, by number. -/
import Derived.Test.YtmjnlcfnaoloeaaZAbV
import Derived.Test.YtmjnlcfnaoloeaaProg
import Derived.KernelRfl
namespace Go.Proofs.Ytmjnlcfnaoloeaa.Ab
open Go Go.RowKit
set_option linter.defProp false
theorem tyc_1 : tyc Try.prog 1 = some (false, 1) := by kernel_rfl
theorem zer_1 : zer Try.prog 1 = some [Go.Value.nilFunc] := by kernel_rfl
theorem tyc_2 : tyc Try.prog 2 = some (false, 1) := by kernel_rfl
theorem zer_2 : zer Try.prog 2 = some [Go.Value.int Go.IntKind.i64 0] := by kernel_rfl
theorem zds_2 : zds Try.prog 2 = some [.v (Go.Value.int Go.IntKind.i64 0)] := by kernel_rfl
theorem und_2 : Try.prog.underlying 2 = some (.int .i64) := by kernel_rfl
theorem apf_2 : apf Try.prog 2 = some (1, 8) := by kernel_rfl
theorem tyc_3 : tyc Try.prog 3 = some (false, 1) := by kernel_rfl
theorem zer_3 : zer Try.prog 3 = some [Go.Value.int Go.IntKind.i64 0] := by kernel_rfl
theorem zds_3 : zds Try.prog 3 = some [.v (Go.Value.int Go.IntKind.i64 0)] := by kernel_rfl
theorem und_3 : Try.prog.underlying 3 = some (.int .i64) := by kernel_rfl
theorem apf_3 : apf Try.prog 3 = some (1, 8) := by kernel_rfl
theorem tyc_4 : tyc Try.prog 4 = some (false, 1) := by kernel_rfl
theorem zer_4 : zer Try.prog 4 = some [Go.Value.bool false] := by kernel_rfl
theorem zds_4 : zds Try.prog 4 = some [.v (Go.Value.bool false)] := by kernel_rfl
theorem und_4 : Try.prog.underlying 4 = some .bool := by kernel_rfl
theorem apf_4 : apf Try.prog 4 = some (1, 1) := by kernel_rfl
theorem tyc_5 : tyc Try.prog 5 = some (false, 1) := by kernel_rfl
theorem zer_5 : zer Try.prog 5 = some [Go.Value.int Go.IntKind.u8 0] := by kernel_rfl
theorem zds_5 : zds Try.prog 5 = some [.v (Go.Value.int Go.IntKind.u8 0)] := by kernel_rfl
theorem und_5 : Try.prog.underlying 5 = some (.int .u8) := by kernel_rfl
theorem apf_5 : apf Try.prog 5 = some (1, 1) := by kernel_rfl
theorem tyc_6 : tyc Try.prog 6 = some (false, 1) := by kernel_rfl
theorem zer_6 : zer Try.prog 6 = some [Go.Value.int Go.IntKind.u8 0] := by kernel_rfl
theorem zds_6 : zds Try.prog 6 = some [.v (Go.Value.int Go.IntKind.u8 0)] := by kernel_rfl
theorem und_6 : Try.prog.underlying 6 = some (.int .u8) := by kernel_rfl
theorem apf_6 : apf Try.prog 6 = some (1, 1) := by kernel_rfl
theorem tyc_7 : tyc Try.prog 7 = some (true, 4) := by kernel_rfl
theorem zer_7 : zer Try.prog 7 = some [Go.Value.int Go.IntKind.i64 0, Go.Value.int Go.IntKind.i64 0, Go.Value.bool false, Go.Value.int Go.IntKind.u8 0] := by kernel_rfl
theorem zds_7 : zds Try.prog 7 = some [.v (Go.Value.int Go.IntKind.i64 0), .v (Go.Value.int Go.IntKind.i64 0), .v (Go.Value.bool false), .v (Go.Value.int Go.IntKind.u8 0)] := by kernel_rfl
theorem fld_7_0 : fld Try.prog 7 0 = some (0, 2) := by kernel_rfl
theorem fld_7_1 : fld Try.prog 7 1 = some (1, 3) := by kernel_rfl
theorem fld_7_2 : fld Try.prog 7 2 = some (2, 4) := by kernel_rfl
theorem fld_7_3 : fld Try.prog 7 3 = some (3, 6) := by kernel_rfl
theorem stf_7 : stf Try.prog 7 = some [(0, 1), (1, 1), (2, 1), (3, 1)] := by kernel_rfl
theorem arr_7 : arr Try.prog 7 = none := by kernel_rfl
theorem apf_7 : apf Try.prog 7 = some (4, 24) := by kernel_rfl
theorem tyc_8 : tyc Try.prog 8 = some (true, 4) := by kernel_rfl
theorem zer_8 : zer Try.prog 8 = some [Go.Value.int Go.IntKind.i64 0, Go.Value.int Go.IntKind.i64 0, Go.Value.bool false, Go.Value.int Go.IntKind.u8 0] := by kernel_rfl
theorem zds_8 : zds Try.prog 8 = some [.v (Go.Value.int Go.IntKind.i64 0), .v (Go.Value.int Go.IntKind.i64 0), .v (Go.Value.bool false), .v (Go.Value.int Go.IntKind.u8 0)] := by kernel_rfl
theorem fld_8_0 : fld Try.prog 8 0 = some (0, 2) := by kernel_rfl
theorem fld_8_1 : fld Try.prog 8 1 = some (1, 3) := by kernel_rfl
theorem fld_8_2 : fld Try.prog 8 2 = some (2, 4) := by kernel_rfl
theorem fld_8_3 : fld Try.prog 8 3 = some (3, 6) := by kernel_rfl
theorem stf_8 : stf Try.prog 8 = some [(0, 1), (1, 1), (2, 1), (3, 1)] := by kernel_rfl
theorem arr_8 : arr Try.prog 8 = none := by kernel_rfl
theorem apf_8 : apf Try.prog 8 = some (4, 24) := by kernel_rfl
theorem tyc_9 : tyc Try.prog 9 = some (false, 1) := by kernel_rfl
theorem zer_9 : zer Try.prog 9 = some [Go.Value.string { data := #[] }] := by kernel_rfl
theorem zds_9 : zds Try.prog 9 = some [.v (Go.Value.string { data := #[] })] := by kernel_rfl
theorem apf_9 : apf Try.prog 9 = some (1, 16) := by kernel_rfl
theorem tyc_10 : tyc Try.prog 10 = some (false, 1) := by kernel_rfl
theorem zer_10 : zer Try.prog 10 = some [Go.Value.string { data := #[] }] := by kernel_rfl
theorem zds_10 : zds Try.prog 10 = some [.v (Go.Value.string { data := #[] })] := by kernel_rfl
theorem apf_10 : apf Try.prog 10 = some (1, 16) := by kernel_rfl
theorem tyc_11 : tyc Try.prog 11 = some (false, 1) := by kernel_rfl
theorem zer_11 : zer Try.prog 11 = some [Go.Value.string { data := #[] }] := by kernel_rfl
theorem zds_11 : zds Try.prog 11 = some [.v (Go.Value.string { data := #[] })] := by kernel_rfl
theorem apf_11 : apf Try.prog 11 = some (1, 16) := by kernel_rfl
theorem tyc_12 : tyc Try.prog 12 = some (false, 1) := by kernel_rfl
theorem zer_12 : zer Try.prog 12 = some [Go.Value.int Go.IntKind.u64 0] := by kernel_rfl
theorem zds_12 : zds Try.prog 12 = some [.v (Go.Value.int Go.IntKind.u64 0)] := by kernel_rfl
theorem und_12 : Try.prog.underlying 12 = some (.int .u64) := by kernel_rfl
theorem apf_12 : apf Try.prog 12 = some (1, 8) := by kernel_rfl
theorem tyc_13 : tyc Try.prog 13 = some (true, 2) := by kernel_rfl
theorem zer_13 : zer Try.prog 13 = some [Go.Value.string { data := #[] }, Go.Value.int Go.IntKind.u64 0] := by kernel_rfl
theorem zds_13 : zds Try.prog 13 = some [.v (Go.Value.string { data := #[] }), .v (Go.Value.int Go.IntKind.u64 0)] := by kernel_rfl
theorem fld_13_0 : fld Try.prog 13 0 = some (0, 9) := by kernel_rfl
theorem fld_13_1 : fld Try.prog 13 1 = some (1, 12) := by kernel_rfl
theorem stf_13 : stf Try.prog 13 = some [(0, 1), (1, 1)] := by kernel_rfl
theorem arr_13 : arr Try.prog 13 = none := by kernel_rfl
theorem apf_13 : apf Try.prog 13 = some (2, 24) := by kernel_rfl
theorem tyc_14 : tyc Try.prog 14 = some (true, 2) := by kernel_rfl
theorem zer_14 : zer Try.prog 14 = some [Go.Value.string { data := #[] }, Go.Value.int Go.IntKind.u64 0] := by kernel_rfl
theorem zds_14 : zds Try.prog 14 = some [.v (Go.Value.string { data := #[] }), .v (Go.Value.int Go.IntKind.u64 0)] := by kernel_rfl
theorem fld_14_0 : fld Try.prog 14 0 = some (0, 9) := by kernel_rfl
theorem fld_14_1 : fld Try.prog 14 1 = some (1, 12) := by kernel_rfl
theorem stf_14 : stf Try.prog 14 = some [(0, 1), (1, 1)] := by kernel_rfl
theorem arr_14 : arr Try.prog 14 = none := by kernel_rfl
theorem apf_14 : apf Try.prog 14 = some (2, 24) := by kernel_rfl
theorem tyc_15 : tyc Try.prog 15 = some (false, 1) := by kernel_rfl
theorem zer_15 : zer Try.prog 15 = some [Go.Value.pointer none] := by kernel_rfl
theorem zds_15 : zds Try.prog 15 = some [.v (Go.Value.pointer none)] := by kernel_rfl
theorem apf_15 : apf Try.prog 15 = some (1, 8) := by kernel_rfl
theorem tyc_16 : tyc Try.prog 16 = some (false, 1) := by kernel_rfl
theorem zer_16 : zer Try.prog 16 = some [Go.Value.pointer none] := by kernel_rfl
theorem zds_16 : zds Try.prog 16 = some [.v (Go.Value.pointer none)] := by kernel_rfl
theorem apf_16 : apf Try.prog 16 = some (1, 8) := by kernel_rfl
theorem tyc_17 : tyc Try.prog 17 = some (false, 1) := by kernel_rfl
theorem zer_17 : zer Try.prog 17 = some [Go.Value.pointer none] := by kernel_rfl
theorem zds_17 : zds Try.prog 17 = some [.v (Go.Value.pointer none)] := by kernel_rfl
theorem apf_17 : apf Try.prog 17 = some (1, 8) := by kernel_rfl
theorem tyc_18 : tyc Try.prog 18 = some (true, 1) := by kernel_rfl
theorem zer_18 : zer Try.prog 18 = some [Go.Value.pointer none] := by kernel_rfl
theorem zds_18 : zds Try.prog 18 = some [.v (Go.Value.pointer none)] := by kernel_rfl
theorem fld_18_0 : fld Try.prog 18 0 = some (0, 17) := by kernel_rfl
theorem stf_18 : stf Try.prog 18 = some [(0, 1)] := by kernel_rfl
theorem arr_18 : arr Try.prog 18 = none := by kernel_rfl
theorem apf_18 : apf Try.prog 18 = some (1, 8) := by kernel_rfl
theorem tyc_19 : tyc Try.prog 19 = some (true, 1) := by kernel_rfl
theorem zer_19 : zer Try.prog 19 = some [Go.Value.pointer none] := by kernel_rfl
theorem zds_19 : zds Try.prog 19 = some [.v (Go.Value.pointer none)] := by kernel_rfl
theorem fld_19_0 : fld Try.prog 19 0 = some (0, 17) := by kernel_rfl
theorem stf_19 : stf Try.prog 19 = some [(0, 1)] := by kernel_rfl
theorem arr_19 : arr Try.prog 19 = none := by kernel_rfl
theorem apf_19 : apf Try.prog 19 = some (1, 8) := by kernel_rfl
theorem tyc_21 : tyc Try.prog 21 = some (false, 1) := by kernel_rfl
theorem zer_21 : zer Try.prog 21 = some [Go.Value.int Go.IntKind.i32 0] := by kernel_rfl
theorem zds_21 : zds Try.prog 21 = some [.v (Go.Value.int Go.IntKind.i32 0)] := by kernel_rfl
theorem und_21 : Try.prog.underlying 21 = some (.int .i32) := by kernel_rfl
theorem apf_21 : apf Try.prog 21 = some (1, 4) := by kernel_rfl
theorem tyc_22 : tyc Try.prog 22 = some (false, 1) := by kernel_rfl
theorem zer_22 : zer Try.prog 22 = some [Go.Value.slice none 0 0] := by kernel_rfl
theorem zds_22 : zds Try.prog 22 = some [.sl 2 []] := by kernel_rfl
theorem elt_22 : elt Try.prog 22 = some (40, 2) := by kernel_rfl
theorem apf_22 : apf Try.prog 22 = some (1, 24) := by kernel_rfl
theorem tyc_23 : tyc Try.prog 23 = some (true, 3) := by kernel_rfl
theorem zer_23 : zer Try.prog 23 = some [Go.Value.slice none 0 0, Go.Value.int Go.IntKind.i64 0, Go.Value.int Go.IntKind.i64 0] := by kernel_rfl
theorem zds_23 : zds Try.prog 23 = some [.v (Go.Value.slice none 0 0), .v (Go.Value.int Go.IntKind.i64 0), .v (Go.Value.int Go.IntKind.i64 0)] := by kernel_rfl
theorem fld_23_0 : fld Try.prog 23 0 = some (0, 22) := by kernel_rfl
theorem fld_23_1 : fld Try.prog 23 1 = some (1, 3) := by kernel_rfl
theorem fld_23_2 : fld Try.prog 23 2 = some (2, 3) := by kernel_rfl
theorem stf_23 : stf Try.prog 23 = some [(0, 1), (1, 1), (2, 1)] := by kernel_rfl
theorem arr_23 : arr Try.prog 23 = none := by kernel_rfl
theorem apf_23 : apf Try.prog 23 = some (3, 40) := by kernel_rfl
theorem tyc_24 : tyc Try.prog 24 = some (true, 3) := by kernel_rfl
theorem zer_24 : zer Try.prog 24 = some [Go.Value.slice none 0 0, Go.Value.int Go.IntKind.i64 0, Go.Value.int Go.IntKind.i64 0] := by kernel_rfl
theorem zds_24 : zds Try.prog 24 = some [.v (Go.Value.slice none 0 0), .v (Go.Value.int Go.IntKind.i64 0), .v (Go.Value.int Go.IntKind.i64 0)] := by kernel_rfl
theorem fld_24_0 : fld Try.prog 24 0 = some (0, 22) := by kernel_rfl
theorem fld_24_1 : fld Try.prog 24 1 = some (1, 3) := by kernel_rfl
theorem fld_24_2 : fld Try.prog 24 2 = some (2, 3) := by kernel_rfl
theorem stf_24 : stf Try.prog 24 = some [(0, 1), (1, 1), (2, 1)] := by kernel_rfl
theorem arr_24 : arr Try.prog 24 = none := by kernel_rfl
theorem apf_24 : apf Try.prog 24 = some (3, 40) := by kernel_rfl
theorem tyc_25 : tyc Try.prog 25 = some (false, 1) := by kernel_rfl
theorem zer_25 : zer Try.prog 25 = some [Go.Value.nilFunc] := by kernel_rfl
theorem tyc_26 : tyc Try.prog 26 = some (false, 1) := by kernel_rfl
theorem zer_26 : zer Try.prog 26 = some [Go.Value.nilFunc] := by kernel_rfl
theorem tyc_27 : tyc Try.prog 27 = some (false, 1) := by kernel_rfl
theorem zer_27 : zer Try.prog 27 = some [Go.Value.int Go.IntKind.i64 0] := by kernel_rfl
theorem zds_27 : zds Try.prog 27 = some [.v (Go.Value.int Go.IntKind.i64 0)] := by kernel_rfl
theorem und_27 : Try.prog.underlying 27 = some (.int .i64) := by kernel_rfl
theorem apf_27 : apf Try.prog 27 = some (1, 8) := by kernel_rfl
theorem tyc_29 : tyc Try.prog 29 = some (false, 1) := by kernel_rfl
theorem zer_29 : zer Try.prog 29 = some [Go.Value.nilFunc] := by kernel_rfl
theorem tyc_30 : tyc Try.prog 30 = some (false, 1) := by kernel_rfl
theorem zer_30 : zer Try.prog 30 = some [Go.Value.nilFunc] := by kernel_rfl
theorem tyc_31 : tyc Try.prog 31 = some (false, 1) := by kernel_rfl
theorem zer_31 : zer Try.prog 31 = some [Go.Value.nilFunc] := by kernel_rfl
theorem tyc_32 : tyc Try.prog 32 = some (false, 1) := by kernel_rfl
theorem zer_32 : zer Try.prog 32 = some [Go.Value.nilFunc] := by kernel_rfl
theorem tyc_33 : tyc Try.prog 33 = some (true, 3) := by kernel_rfl
theorem zer_33 : zer Try.prog 33 = some [Go.Value.int Go.IntKind.i64 0, Go.Value.int Go.IntKind.i64 0, Go.Value.int Go.IntKind.i64 0] := by kernel_rfl
theorem zds_33 : zds Try.prog 33 = some [.v (Go.Value.int Go.IntKind.i64 0), .v (Go.Value.int Go.IntKind.i64 0), .v (Go.Value.int Go.IntKind.i64 0)] := by kernel_rfl
theorem fld_33_0 : fld Try.prog 33 0 = some (0, 3) := by kernel_rfl
theorem fld_33_1 : fld Try.prog 33 1 = some (1, 3) := by kernel_rfl
theorem fld_33_2 : fld Try.prog 33 2 = some (2, 3) := by kernel_rfl
theorem stf_33 : stf Try.prog 33 = some [(0, 1), (1, 1), (2, 1)] := by kernel_rfl
theorem arr_33 : arr Try.prog 33 = none := by kernel_rfl
theorem apf_33 : apf Try.prog 33 = some (3, 24) := by kernel_rfl
theorem tyc_34 : tyc Try.prog 34 = some (true, 3) := by kernel_rfl
theorem zer_34 : zer Try.prog 34 = some [Go.Value.int Go.IntKind.i64 0, Go.Value.int Go.IntKind.i64 0, Go.Value.int Go.IntKind.i64 0] := by kernel_rfl
theorem zds_34 : zds Try.prog 34 = some [.v (Go.Value.int Go.IntKind.i64 0), .v (Go.Value.int Go.IntKind.i64 0), .v (Go.Value.int Go.IntKind.i64 0)] := by kernel_rfl
theorem fld_34_0 : fld Try.prog 34 0 = some (0, 3) := by kernel_rfl
theorem fld_34_1 : fld Try.prog 34 1 = some (1, 3) := by kernel_rfl
theorem fld_34_2 : fld Try.prog 34 2 = some (2, 3) := by kernel_rfl
theorem stf_34 : stf Try.prog 34 = some [(0, 1), (1, 1), (2, 1)] := by kernel_rfl
theorem arr_34 : arr Try.prog 34 = none := by kernel_rfl
theorem apf_34 : apf Try.prog 34 = some (3, 24) := by kernel_rfl
theorem tyc_35 : tyc Try.prog 35 = some (false, 1) := by kernel_rfl
theorem zer_35 : zer Try.prog 35 = some [Go.Value.nilFunc] := by kernel_rfl
theorem tyc_37 : tyc Try.prog 37 = some (false, 1) := by kernel_rfl
theorem zer_37 : zer Try.prog 37 = some [Go.Value.nilFunc] := by kernel_rfl
theorem tyc_38 : tyc Try.prog 38 = some (false, 1) := by kernel_rfl
theorem zer_38 : zer Try.prog 38 = some [Go.Value.nilFunc] := by kernel_rfl
theorem tyc_39 : tyc Try.prog 39 = some (true, 2) := by kernel_rfl
theorem zer_39 : zer Try.prog 39 = some [Go.Value.int Go.IntKind.i64 0, Go.Value.int Go.IntKind.i64 0] := by kernel_rfl
theorem zds_39 : zds Try.prog 39 = some [.v (Go.Value.int Go.IntKind.i64 0), .v (Go.Value.int Go.IntKind.i64 0)] := by kernel_rfl
theorem fld_39_0 : fld Try.prog 39 0 = some (0, 3) := by kernel_rfl
theorem fld_39_1 : fld Try.prog 39 1 = some (1, 3) := by kernel_rfl
theorem stf_39 : stf Try.prog 39 = some [(0, 1), (1, 1)] := by kernel_rfl
theorem arr_39 : arr Try.prog 39 = none := by kernel_rfl
theorem apf_39 : apf Try.prog 39 = some (2, 16) := by kernel_rfl
theorem tyc_40 : tyc Try.prog 40 = some (true, 2) := by kernel_rfl
theorem zer_40 : zer Try.prog 40 = some [Go.Value.int Go.IntKind.i64 0, Go.Value.int Go.IntKind.i64 0] := by kernel_rfl
theorem zds_40 : zds Try.prog 40 = some [.v (Go.Value.int Go.IntKind.i64 0), .v (Go.Value.int Go.IntKind.i64 0)] := by kernel_rfl
theorem fld_40_0 : fld Try.prog 40 0 = some (0, 3) := by kernel_rfl
theorem fld_40_1 : fld Try.prog 40 1 = some (1, 3) := by kernel_rfl
theorem stf_40 : stf Try.prog 40 = some [(0, 1), (1, 1)] := by kernel_rfl
theorem arr_40 : arr Try.prog 40 = none := by kernel_rfl
theorem apf_40 : apf Try.prog 40 = some (2, 16) := by kernel_rfl
theorem tyc_41 : tyc Try.prog 41 = some (false, 1) := by kernel_rfl
theorem zer_41 : zer Try.prog 41 = some [Go.Value.nilFunc] := by kernel_rfl
theorem tyc_42 : tyc Try.prog 42 = some (false, 1) := by kernel_rfl
theorem zer_42 : zer Try.prog 42 = some [Go.Value.slice none 0 0] := by kernel_rfl
theorem zds_42 : zds Try.prog 42 = some [.sl 1 []] := by kernel_rfl
theorem elt_42 : elt Try.prog 42 = some (3, 1) := by kernel_rfl
theorem apf_42 : apf Try.prog 42 = some (1, 24) := by kernel_rfl
theorem tyc_44 : tyc Try.prog 44 = some (false, 1) := by kernel_rfl
theorem zer_44 : zer Try.prog 44 = some [Go.Value.nilFunc] := by kernel_rfl
theorem tyc_45 : tyc Try.prog 45 = some (false, 1) := by kernel_rfl
theorem zer_45 : zer Try.prog 45 = some [Go.Value.nilFunc] := by kernel_rfl
theorem tyc_46 : tyc Try.prog 46 = some (false, 1) := by kernel_rfl
theorem zer_46 : zer Try.prog 46 = some [Go.Value.nilFunc] := by kernel_rfl
theorem tyc_47 : tyc Try.prog 47 = some (false, 1) := by kernel_rfl
theorem zer_47 : zer Try.prog 47 = some [Go.Value.nilFunc] := by kernel_rfl
theorem tyc_48 : tyc Try.prog 48 = some (false, 1) := by kernel_rfl
theorem zer_48 : zer Try.prog 48 = some [Go.Value.nilFunc] := by kernel_rfl
theorem tyc_49 : tyc Try.prog 49 = some (false, 1) := by kernel_rfl
theorem zer_49 : zer Try.prog 49 = some [Go.Value.slice none 0 0] := by kernel_rfl
theorem zds_49 : zds Try.prog 49 = some [.sl 3 []] := by kernel_rfl
theorem elt_49 : elt Try.prog 49 = some (94, 3) := by kernel_rfl
theorem apf_49 : apf Try.prog 49 = some (1, 24) := by kernel_rfl
theorem tyc_50 : tyc Try.prog 50 = some (true, 2) := by kernel_rfl
theorem zer_50 : zer Try.prog 50 = some [Go.Value.slice none 0 0, Go.Value.int Go.IntKind.i64 0] := by kernel_rfl
theorem zds_50 : zds Try.prog 50 = some [.v (Go.Value.slice none 0 0), .v (Go.Value.int Go.IntKind.i64 0)] := by kernel_rfl
theorem fld_50_0 : fld Try.prog 50 0 = some (0, 49) := by kernel_rfl
theorem fld_50_1 : fld Try.prog 50 1 = some (1, 3) := by kernel_rfl
theorem stf_50 : stf Try.prog 50 = some [(0, 1), (1, 1)] := by kernel_rfl
theorem arr_50 : arr Try.prog 50 = none := by kernel_rfl
theorem apf_50 : apf Try.prog 50 = some (2, 32) := by kernel_rfl
theorem tyc_51 : tyc Try.prog 51 = some (true, 2) := by kernel_rfl
theorem zer_51 : zer Try.prog 51 = some [Go.Value.slice none 0 0, Go.Value.int Go.IntKind.i64 0] := by kernel_rfl
theorem zds_51 : zds Try.prog 51 = some [.v (Go.Value.slice none 0 0), .v (Go.Value.int Go.IntKind.i64 0)] := by kernel_rfl
theorem fld_51_0 : fld Try.prog 51 0 = some (0, 49) := by kernel_rfl
theorem fld_51_1 : fld Try.prog 51 1 = some (1, 3) := by kernel_rfl
theorem stf_51 : stf Try.prog 51 = some [(0, 1), (1, 1)] := by kernel_rfl
theorem arr_51 : arr Try.prog 51 = none := by kernel_rfl
theorem apf_51 : apf Try.prog 51 = some (2, 32) := by kernel_rfl
theorem tyc_52 : tyc Try.prog 52 = some (false, 1) := by kernel_rfl
theorem zer_52 : zer Try.prog 52 = some [Go.Value.nilFunc] := by kernel_rfl
theorem tyc_53 : tyc Try.prog 53 = some (false, 1) := by kernel_rfl
theorem zer_53 : zer Try.prog 53 = some [Go.Value.nilFunc] := by kernel_rfl
theorem tyc_54 : tyc Try.prog 54 = some (false, 1) := by kernel_rfl
theorem zer_54 : zer Try.prog 54 = some [Go.Value.nilFunc] := by kernel_rfl
theorem tyc_55 : tyc Try.prog 55 = some (false, 1) := by kernel_rfl
theorem zer_55 : zer Try.prog 55 = some [Go.Value.slice none 0 0] := by kernel_rfl
theorem zds_55 : zds Try.prog 55 = some [.sl 3 []] := by kernel_rfl
theorem elt_55 : elt Try.prog 55 = some (65, 3) := by kernel_rfl
theorem apf_55 : apf Try.prog 55 = some (1, 24) := by kernel_rfl
theorem tyc_57 : tyc Try.prog 57 = some (false, 1) := by kernel_rfl
theorem zer_57 : zer Try.prog 57 = some [Go.Value.nilFunc] := by kernel_rfl
theorem tyc_58 : tyc Try.prog 58 = some (false, 1) := by kernel_rfl
theorem zer_58 : zer Try.prog 58 = some [Go.Value.nilFunc] := by kernel_rfl
theorem tyc_59 : tyc Try.prog 59 = some (false, 1) := by kernel_rfl
theorem zer_59 : zer Try.prog 59 = some [Go.Value.nilFunc] := by kernel_rfl
theorem tyc_60 : tyc Try.prog 60 = some (false, 1) := by kernel_rfl
theorem zer_60 : zer Try.prog 60 = some [Go.Value.nilFunc] := by kernel_rfl
theorem tyc_61 : tyc Try.prog 61 = some (false, 1) := by kernel_rfl
theorem zer_61 : zer Try.prog 61 = some [Go.Value.int Go.IntKind.i64 0] := by kernel_rfl
theorem zds_61 : zds Try.prog 61 = some [.v (Go.Value.int Go.IntKind.i64 0)] := by kernel_rfl
theorem und_61 : Try.prog.underlying 61 = some (.int .i64) := by kernel_rfl
theorem apf_61 : apf Try.prog 61 = some (1, 8) := by kernel_rfl
theorem tyc_62 : tyc Try.prog 62 = some (true, 2) := by kernel_rfl
theorem zer_62 : zer Try.prog 62 = some [Go.Value.int Go.IntKind.i64 0, Go.Value.int Go.IntKind.i64 0] := by kernel_rfl
theorem zds_62 : zds Try.prog 62 = some [.v (Go.Value.int Go.IntKind.i64 0), .v (Go.Value.int Go.IntKind.i64 0)] := by kernel_rfl
theorem fld_62_0 : fld Try.prog 62 0 = some (0, 3) := by kernel_rfl
theorem fld_62_1 : fld Try.prog 62 1 = some (1, 61) := by kernel_rfl
theorem stf_62 : stf Try.prog 62 = some [(0, 1), (1, 1)] := by kernel_rfl
theorem arr_62 : arr Try.prog 62 = none := by kernel_rfl
theorem apf_62 : apf Try.prog 62 = some (2, 16) := by kernel_rfl
theorem tyc_63 : tyc Try.prog 63 = some (true, 2) := by kernel_rfl
theorem zer_63 : zer Try.prog 63 = some [Go.Value.int Go.IntKind.i64 0, Go.Value.int Go.IntKind.i64 0] := by kernel_rfl
theorem zds_63 : zds Try.prog 63 = some [.v (Go.Value.int Go.IntKind.i64 0), .v (Go.Value.int Go.IntKind.i64 0)] := by kernel_rfl
theorem fld_63_0 : fld Try.prog 63 0 = some (0, 3) := by kernel_rfl
theorem fld_63_1 : fld Try.prog 63 1 = some (1, 61) := by kernel_rfl
theorem stf_63 : stf Try.prog 63 = some [(0, 1), (1, 1)] := by kernel_rfl
theorem arr_63 : arr Try.prog 63 = none := by kernel_rfl
theorem apf_63 : apf Try.prog 63 = some (2, 16) := by kernel_rfl
theorem tyc_64 : tyc Try.prog 64 = some (true, 3) := by kernel_rfl
theorem zer_64 : zer Try.prog 64 = some [Go.Value.int Go.IntKind.i64 0, Go.Value.int Go.IntKind.i64 0, Go.Value.int Go.IntKind.i64 0] := by kernel_rfl
theorem zds_64 : zds Try.prog 64 = some [.v (Go.Value.int Go.IntKind.i64 0), .v (Go.Value.int Go.IntKind.i64 0), .v (Go.Value.int Go.IntKind.i64 0)] := by kernel_rfl
theorem fld_64_0 : fld Try.prog 64 0 = some (0, 63) := by kernel_rfl
theorem fld_64_1 : fld Try.prog 64 1 = some (2, 3) := by kernel_rfl
theorem stf_64 : stf Try.prog 64 = some [(0, 2), (2, 1)] := by kernel_rfl
theorem arr_64 : arr Try.prog 64 = none := by kernel_rfl
theorem apf_64 : apf Try.prog 64 = some (3, 24) := by kernel_rfl
theorem tyc_65 : tyc Try.prog 65 = some (true, 3) := by kernel_rfl
theorem zer_65 : zer Try.prog 65 = some [Go.Value.int Go.IntKind.i64 0, Go.Value.int Go.IntKind.i64 0, Go.Value.int Go.IntKind.i64 0] := by kernel_rfl
theorem zds_65 : zds Try.prog 65 = some [.v (Go.Value.int Go.IntKind.i64 0), .v (Go.Value.int Go.IntKind.i64 0), .v (Go.Value.int Go.IntKind.i64 0)] := by kernel_rfl
theorem fld_65_0 : fld Try.prog 65 0 = some (0, 63) := by kernel_rfl
theorem fld_65_1 : fld Try.prog 65 1 = some (2, 3) := by kernel_rfl
theorem stf_65 : stf Try.prog 65 = some [(0, 2), (2, 1)] := by kernel_rfl
theorem arr_65 : arr Try.prog 65 = none := by kernel_rfl
theorem apf_65 : apf Try.prog 65 = some (3, 24) := by kernel_rfl
theorem tyc_66 : tyc Try.prog 66 = some (false, 1) := by kernel_rfl
theorem zer_66 : zer Try.prog 66 = some [Go.Value.nilFunc] := by kernel_rfl
theorem tyc_67 : tyc Try.prog 67 = some (false, 1) := by kernel_rfl
theorem zer_67 : zer Try.prog 67 = some [Go.Value.slice none 0 0] := by kernel_rfl
theorem zds_67 : zds Try.prog 67 = some [.sl 2 []] := by kernel_rfl
theorem elt_67 : elt Try.prog 67 = some (63, 2) := by kernel_rfl
theorem apf_67 : apf Try.prog 67 = some (1, 24) := by kernel_rfl
theorem tyc_68 : tyc Try.prog 68 = some (false, 1) := by kernel_rfl
theorem zer_68 : zer Try.prog 68 = some [Go.Value.nilFunc] := by kernel_rfl
theorem tyc_69 : tyc Try.prog 69 = some (false, 1) := by kernel_rfl
theorem zer_69 : zer Try.prog 69 = some [Go.Value.nilFunc] := by kernel_rfl
theorem tyc_70 : tyc Try.prog 70 = some (false, 1) := by kernel_rfl
theorem zer_70 : zer Try.prog 70 = some [Go.Value.slice none 0 0] := by kernel_rfl
theorem zds_70 : zds Try.prog 70 = some [.sl 2 []] := by kernel_rfl
theorem elt_70 : elt Try.prog 70 = some (76, 2) := by kernel_rfl
theorem apf_70 : apf Try.prog 70 = some (1, 24) := by kernel_rfl
theorem tyc_72 : tyc Try.prog 72 = some (false, 1) := by kernel_rfl
theorem zer_72 : zer Try.prog 72 = some [Go.Value.nilFunc] := by kernel_rfl
theorem tyc_73 : tyc Try.prog 73 = some (false, 1) := by kernel_rfl
theorem zer_73 : zer Try.prog 73 = some [Go.Value.slice none 0 0] := by kernel_rfl
theorem zds_73 : zds Try.prog 73 = some [.sl 2 []] := by kernel_rfl
theorem elt_73 : elt Try.prog 73 = some (51, 2) := by kernel_rfl
theorem apf_73 : apf Try.prog 73 = some (1, 24) := by kernel_rfl
theorem tyc_74 : tyc Try.prog 74 = some (false, 1) := by kernel_rfl
theorem zer_74 : zer Try.prog 74 = some [Go.Value.nilFunc] := by kernel_rfl
theorem tyc_75 : tyc Try.prog 75 = some (true, 2) := by kernel_rfl
theorem zer_75 : zer Try.prog 75 = some [Go.Value.int Go.IntKind.i64 0, Go.Value.int Go.IntKind.i64 0] := by kernel_rfl
theorem zds_75 : zds Try.prog 75 = some [.v (Go.Value.int Go.IntKind.i64 0), .v (Go.Value.int Go.IntKind.i64 0)] := by kernel_rfl
theorem fld_75_0 : fld Try.prog 75 0 = some (0, 3) := by kernel_rfl
theorem fld_75_1 : fld Try.prog 75 1 = some (1, 3) := by kernel_rfl
theorem stf_75 : stf Try.prog 75 = some [(0, 1), (1, 1)] := by kernel_rfl
theorem arr_75 : arr Try.prog 75 = none := by kernel_rfl
theorem apf_75 : apf Try.prog 75 = some (2, 16) := by kernel_rfl
theorem tyc_76 : tyc Try.prog 76 = some (true, 2) := by kernel_rfl
theorem zer_76 : zer Try.prog 76 = some [Go.Value.int Go.IntKind.i64 0, Go.Value.int Go.IntKind.i64 0] := by kernel_rfl
theorem zds_76 : zds Try.prog 76 = some [.v (Go.Value.int Go.IntKind.i64 0), .v (Go.Value.int Go.IntKind.i64 0)] := by kernel_rfl
theorem fld_76_0 : fld Try.prog 76 0 = some (0, 3) := by kernel_rfl
theorem fld_76_1 : fld Try.prog 76 1 = some (1, 3) := by kernel_rfl
theorem stf_76 : stf Try.prog 76 = some [(0, 1), (1, 1)] := by kernel_rfl
theorem arr_76 : arr Try.prog 76 = none := by kernel_rfl
theorem apf_76 : apf Try.prog 76 = some (2, 16) := by kernel_rfl
theorem tyc_77 : tyc Try.prog 77 = some (false, 1) := by kernel_rfl
theorem zer_77 : zer Try.prog 77 = some [Go.Value.nilFunc] := by kernel_rfl
theorem tyc_79 : tyc Try.prog 79 = some (false, 1) := by kernel_rfl
theorem zer_79 : zer Try.prog 79 = some [Go.Value.nilFunc] := by kernel_rfl
theorem tyc_80 : tyc Try.prog 80 = some (false, 1) := by kernel_rfl
theorem zer_80 : zer Try.prog 80 = some [Go.Value.nilFunc] := by kernel_rfl
theorem tyc_81 : tyc Try.prog 81 = some (false, 1) := by kernel_rfl
theorem zer_81 : zer Try.prog 81 = some [Go.Value.nilFunc] := by kernel_rfl
theorem tyc_82 : tyc Try.prog 82 = some (false, 1) := by kernel_rfl
theorem zer_82 : zer Try.prog 82 = some [Go.Value.nilFunc] := by kernel_rfl
theorem tyc_83 : tyc Try.prog 83 = some (false, 1) := by kernel_rfl
theorem zer_83 : zer Try.prog 83 = some [Go.Value.nilFunc] := by kernel_rfl
theorem tyc_84 : tyc Try.prog 84 = some (false, 1) := by kernel_rfl
theorem zer_84 : zer Try.prog 84 = some [Go.Value.nilFunc] := by kernel_rfl
theorem tyc_85 : tyc Try.prog 85 = some (false, 1) := by kernel_rfl
theorem zer_85 : zer Try.prog 85 = some [Go.Value.nilFunc] := by kernel_rfl
theorem tyc_86 : tyc Try.prog 86 = some (true, 3) := by kernel_rfl
theorem zer_86 : zer Try.prog 86 = some [Go.Value.slice none 0 0, Go.Value.int Go.IntKind.i64 0, Go.Value.int Go.IntKind.i64 0] := by kernel_rfl
theorem zds_86 : zds Try.prog 86 = some [.v (Go.Value.slice none 0 0), .v (Go.Value.int Go.IntKind.i64 0), .v (Go.Value.int Go.IntKind.i64 0)] := by kernel_rfl
theorem fld_86_0 : fld Try.prog 86 0 = some (0, 24) := by kernel_rfl
theorem stf_86 : stf Try.prog 86 = some [(0, 3)] := by kernel_rfl
theorem arr_86 : arr Try.prog 86 = none := by kernel_rfl
theorem apf_86 : apf Try.prog 86 = some (3, 40) := by kernel_rfl
theorem tyc_87 : tyc Try.prog 87 = some (true, 3) := by kernel_rfl
theorem zer_87 : zer Try.prog 87 = some [Go.Value.slice none 0 0, Go.Value.int Go.IntKind.i64 0, Go.Value.int Go.IntKind.i64 0] := by kernel_rfl
theorem zds_87 : zds Try.prog 87 = some [.v (Go.Value.slice none 0 0), .v (Go.Value.int Go.IntKind.i64 0), .v (Go.Value.int Go.IntKind.i64 0)] := by kernel_rfl
theorem fld_87_0 : fld Try.prog 87 0 = some (0, 24) := by kernel_rfl
theorem stf_87 : stf Try.prog 87 = some [(0, 3)] := by kernel_rfl
theorem arr_87 : arr Try.prog 87 = none := by kernel_rfl
theorem apf_87 : apf Try.prog 87 = some (3, 40) := by kernel_rfl
theorem tyc_89 : tyc Try.prog 89 = some (false, 1) := by kernel_rfl
theorem zer_89 : zer Try.prog 89 = some [Go.Value.nilFunc] := by kernel_rfl
theorem tyc_90 : tyc Try.prog 90 = some (false, 1) := by kernel_rfl
theorem zer_90 : zer Try.prog 90 = some [Go.Value.nilFunc] := by kernel_rfl
theorem tyc_91 : tyc Try.prog 91 = some (false, 1) := by kernel_rfl
theorem zer_91 : zer Try.prog 91 = some [Go.Value.nilFunc] := by kernel_rfl
theorem tyc_92 : tyc Try.prog 92 = some (false, 1) := by kernel_rfl
theorem zer_92 : zer Try.prog 92 = some [Go.Value.nilFunc] := by kernel_rfl
theorem tyc_93 : tyc Try.prog 93 = some (true, 3) := by kernel_rfl
theorem zer_93 : zer Try.prog 93 = some [Go.Value.int Go.IntKind.i64 0, Go.Value.int Go.IntKind.i64 0, Go.Value.int Go.IntKind.i64 0] := by kernel_rfl
theorem zds_93 : zds Try.prog 93 = some [.v (Go.Value.int Go.IntKind.i64 0), .v (Go.Value.int Go.IntKind.i64 0), .v (Go.Value.int Go.IntKind.i64 0)] := by kernel_rfl
theorem fld_93_0 : fld Try.prog 93 0 = some (0, 3) := by kernel_rfl
theorem fld_93_1 : fld Try.prog 93 1 = some (1, 3) := by kernel_rfl
theorem fld_93_2 : fld Try.prog 93 2 = some (2, 3) := by kernel_rfl
theorem stf_93 : stf Try.prog 93 = some [(0, 1), (1, 1), (2, 1)] := by kernel_rfl
theorem arr_93 : arr Try.prog 93 = none := by kernel_rfl
theorem apf_93 : apf Try.prog 93 = some (3, 24) := by kernel_rfl
theorem tyc_94 : tyc Try.prog 94 = some (true, 3) := by kernel_rfl
theorem zer_94 : zer Try.prog 94 = some [Go.Value.int Go.IntKind.i64 0, Go.Value.int Go.IntKind.i64 0, Go.Value.int Go.IntKind.i64 0] := by kernel_rfl
theorem zds_94 : zds Try.prog 94 = some [.v (Go.Value.int Go.IntKind.i64 0), .v (Go.Value.int Go.IntKind.i64 0), .v (Go.Value.int Go.IntKind.i64 0)] := by kernel_rfl
theorem fld_94_0 : fld Try.prog 94 0 = some (0, 3) := by kernel_rfl
theorem fld_94_1 : fld Try.prog 94 1 = some (1, 3) := by kernel_rfl
theorem fld_94_2 : fld Try.prog 94 2 = some (2, 3) := by kernel_rfl
theorem stf_94 : stf Try.prog 94 = some [(0, 1), (1, 1), (2, 1)] := by kernel_rfl
theorem arr_94 : arr Try.prog 94 = none := by kernel_rfl
theorem apf_94 : apf Try.prog 94 = some (3, 24) := by kernel_rfl
theorem tyc_95 : tyc Try.prog 95 = some (false, 1) := by kernel_rfl
theorem zer_95 : zer Try.prog 95 = some [Go.Value.nilFunc] := by kernel_rfl
theorem tyc_96 : tyc Try.prog 96 = some (false, 1) := by kernel_rfl
theorem zer_96 : zer Try.prog 96 = some [Go.Value.nilFunc] := by kernel_rfl
theorem tyc_97 : tyc Try.prog 97 = some (false, 1) := by kernel_rfl
theorem zer_97 : zer Try.prog 97 = some [Go.Value.pointer none] := by kernel_rfl
theorem zds_97 : zds Try.prog 97 = some [.v (Go.Value.pointer none)] := by kernel_rfl
theorem apf_97 : apf Try.prog 97 = some (1, 8) := by kernel_rfl
theorem tyc_99 : tyc Try.prog 99 = some (false, 1) := by kernel_rfl
theorem zer_99 : zer Try.prog 99 = some [Go.Value.nilFunc] := by kernel_rfl
theorem tyc_100 : tyc Try.prog 100 = some (false, 1) := by kernel_rfl
theorem zer_100 : zer Try.prog 100 = some [Go.Value.nilFunc] := by kernel_rfl
theorem tyc_101 : tyc Try.prog 101 = some (false, 1) := by kernel_rfl
theorem zer_101 : zer Try.prog 101 = some [Go.Value.nilFunc] := by kernel_rfl
theorem tyc_102 : tyc Try.prog 102 = some (false, 1) := by kernel_rfl
theorem zer_102 : zer Try.prog 102 = some [Go.Value.pointer none] := by kernel_rfl
theorem zds_102 : zds Try.prog 102 = some [.v (Go.Value.pointer none)] := by kernel_rfl
theorem apf_102 : apf Try.prog 102 = some (1, 8) := by kernel_rfl
theorem tyc_103 : tyc Try.prog 103 = some (true, 3) := by kernel_rfl
theorem zer_103 : zer Try.prog 103 = some [Go.Value.int Go.IntKind.i64 0, Go.Value.int Go.IntKind.i64 0, Go.Value.pointer none] := by kernel_rfl
theorem zds_103 : zds Try.prog 103 = some [.v (Go.Value.int Go.IntKind.i64 0), .v (Go.Value.int Go.IntKind.i64 0), .v (Go.Value.pointer none)] := by kernel_rfl
theorem fld_103_0 : fld Try.prog 103 0 = some (0, 63) := by kernel_rfl
theorem fld_103_1 : fld Try.prog 103 1 = some (2, 102) := by kernel_rfl
theorem stf_103 : stf Try.prog 103 = some [(0, 2), (2, 1)] := by kernel_rfl
theorem arr_103 : arr Try.prog 103 = none := by kernel_rfl
theorem apf_103 : apf Try.prog 103 = some (3, 24) := by kernel_rfl
theorem tyc_104 : tyc Try.prog 104 = some (true, 3) := by kernel_rfl
theorem zer_104 : zer Try.prog 104 = some [Go.Value.int Go.IntKind.i64 0, Go.Value.int Go.IntKind.i64 0, Go.Value.pointer none] := by kernel_rfl
theorem zds_104 : zds Try.prog 104 = some [.v (Go.Value.int Go.IntKind.i64 0), .v (Go.Value.int Go.IntKind.i64 0), .v (Go.Value.pointer none)] := by kernel_rfl
theorem fld_104_0 : fld Try.prog 104 0 = some (0, 63) := by kernel_rfl
theorem fld_104_1 : fld Try.prog 104 1 = some (2, 102) := by kernel_rfl
theorem stf_104 : stf Try.prog 104 = some [(0, 2), (2, 1)] := by kernel_rfl
theorem arr_104 : arr Try.prog 104 = none := by kernel_rfl
theorem apf_104 : apf Try.prog 104 = some (3, 24) := by kernel_rfl
theorem tyc_105 : tyc Try.prog 105 = some (false, 1) := by kernel_rfl
theorem zer_105 : zer Try.prog 105 = some [Go.Value.nilFunc] := by kernel_rfl
theorem tyc_106 : tyc Try.prog 106 = some (false, 1) := by kernel_rfl
theorem zer_106 : zer Try.prog 106 = some [Go.Value.nilFunc] := by kernel_rfl
theorem tyc_107 : tyc Try.prog 107 = some (false, 1) := by kernel_rfl
theorem zer_107 : zer Try.prog 107 = some [Go.Value.nilFunc] := by kernel_rfl
theorem tyc_108 : tyc Try.prog 108 = some (false, 1) := by kernel_rfl
theorem zer_108 : zer Try.prog 108 = some [Go.Value.nilFunc] := by kernel_rfl
theorem tyc_109 : tyc Try.prog 109 = some (false, 1) := by kernel_rfl
theorem zer_109 : zer Try.prog 109 = some [Go.Value.nilFunc] := by kernel_rfl
theorem tyc_110 : tyc Try.prog 110 = some (false, 1) := by kernel_rfl
theorem zer_110 : zer Try.prog 110 = some [Go.Value.map none] := by kernel_rfl
theorem zds_110 : zds Try.prog 110 = some [.v (Go.Value.map none)] := by kernel_rfl
theorem mpt_110 : mpt Try.prog 110 = some (.i64, 4) := by kernel_rfl
theorem apf_110 : apf Try.prog 110 = some (1, 8) := by kernel_rfl
theorem tyc_111 : tyc Try.prog 111 = some (false, 1) := by kernel_rfl
theorem zer_111 : zer Try.prog 111 = some [Go.Value.map none] := by kernel_rfl
theorem zds_111 : zds Try.prog 111 = some [.v (Go.Value.map none)] := by kernel_rfl
theorem mpt_111 : mpt Try.prog 111 = some (.i64, 4) := by kernel_rfl
theorem apf_111 : apf Try.prog 111 = some (1, 8) := by kernel_rfl
theorem tyc_112 : tyc Try.prog 112 = some (false, 1) := by kernel_rfl
theorem zer_112 : zer Try.prog 112 = some [Go.Value.nilFunc] := by kernel_rfl
theorem tyc_113 : tyc Try.prog 113 = some (true, 3) := by kernel_rfl
theorem zer_113 : zer Try.prog 113 = some [Go.Value.map none, Go.Value.map none, Go.Value.map none] := by kernel_rfl
theorem zds_113 : zds Try.prog 113 = some [.v (Go.Value.map none), .v (Go.Value.map none), .v (Go.Value.map none)] := by kernel_rfl
theorem arr_113 : arr Try.prog 113 = some (3, 111, 1) := by kernel_rfl
theorem stf_113 : stf Try.prog 113 = none := by kernel_rfl
theorem apf_113 : apf Try.prog 113 = some (3, 24) := by kernel_rfl
theorem tyc_114 : tyc Try.prog 114 = some (false, 1) := by kernel_rfl
theorem zer_114 : zer Try.prog 114 = some [Go.Value.nilFunc] := by kernel_rfl
theorem tyc_116 : tyc Try.prog 116 = some (false, 1) := by kernel_rfl
theorem zer_116 : zer Try.prog 116 = some [Go.Value.nilFunc] := by kernel_rfl
theorem tyc_117 : tyc Try.prog 117 = some (true, 4) := by kernel_rfl
theorem zer_117 : zer Try.prog 117 = some [Go.Value.int Go.IntKind.i64 0, Go.Value.int Go.IntKind.i64 0, Go.Value.int Go.IntKind.i64 0, Go.Value.int Go.IntKind.i64 0] := by kernel_rfl
theorem zds_117 : zds Try.prog 117 = some [.v (Go.Value.int Go.IntKind.i64 0), .v (Go.Value.int Go.IntKind.i64 0), .v (Go.Value.int Go.IntKind.i64 0), .v (Go.Value.int Go.IntKind.i64 0)] := by kernel_rfl
theorem arr_117 : arr Try.prog 117 = some (4, 3, 1) := by kernel_rfl
theorem stf_117 : stf Try.prog 117 = none := by kernel_rfl
theorem apf_117 : apf Try.prog 117 = some (4, 32) := by kernel_rfl
theorem tyc_118 : tyc Try.prog 118 = some (true, 2) := by kernel_rfl
theorem zer_118 : zer Try.prog 118 = some [Go.Value.slice none 0 0, Go.Value.int Go.IntKind.i64 0] := by kernel_rfl
theorem zds_118 : zds Try.prog 118 = some [.v (Go.Value.slice none 0 0), .v (Go.Value.int Go.IntKind.i64 0)] := by kernel_rfl
theorem fld_118_0 : fld Try.prog 118 0 = some (0, 51) := by kernel_rfl
theorem stf_118 : stf Try.prog 118 = some [(0, 2)] := by kernel_rfl
theorem arr_118 : arr Try.prog 118 = none := by kernel_rfl
theorem apf_118 : apf Try.prog 118 = some (2, 32) := by kernel_rfl
theorem tyc_119 : tyc Try.prog 119 = some (true, 2) := by kernel_rfl
theorem zer_119 : zer Try.prog 119 = some [Go.Value.slice none 0 0, Go.Value.int Go.IntKind.i64 0] := by kernel_rfl
theorem zds_119 : zds Try.prog 119 = some [.v (Go.Value.slice none 0 0), .v (Go.Value.int Go.IntKind.i64 0)] := by kernel_rfl
theorem fld_119_0 : fld Try.prog 119 0 = some (0, 51) := by kernel_rfl
theorem stf_119 : stf Try.prog 119 = some [(0, 2)] := by kernel_rfl
theorem arr_119 : arr Try.prog 119 = none := by kernel_rfl
theorem apf_119 : apf Try.prog 119 = some (2, 32) := by kernel_rfl
theorem tyc_121 : tyc Try.prog 121 = some (false, 1) := by kernel_rfl
theorem zer_121 : zer Try.prog 121 = some [Go.Value.nilFunc] := by kernel_rfl
theorem tyc_122 : tyc Try.prog 122 = some (false, 1) := by kernel_rfl
theorem zer_122 : zer Try.prog 122 = some [Go.Value.nilFunc] := by kernel_rfl
theorem tyc_123 : tyc Try.prog 123 = some (false, 1) := by kernel_rfl
theorem zer_123 : zer Try.prog 123 = some [Go.Value.nilFunc] := by kernel_rfl
theorem tyc_125 : tyc Try.prog 125 = some (false, 1) := by kernel_rfl
theorem zer_125 : zer Try.prog 125 = some [Go.Value.nilFunc] := by kernel_rfl
theorem tyc_126 : tyc Try.prog 126 = some (false, 1) := by kernel_rfl
theorem zer_126 : zer Try.prog 126 = some [Go.Value.nilFunc] := by kernel_rfl
theorem tyc_127 : tyc Try.prog 127 = some (false, 1) := by kernel_rfl
theorem zer_127 : zer Try.prog 127 = some [Go.Value.nilFunc] := by kernel_rfl
theorem tyc_128 : tyc Try.prog 128 = some (false, 1) := by kernel_rfl
theorem zer_128 : zer Try.prog 128 = some [Go.Value.nilFunc] := by kernel_rfl
theorem tyc_129 : tyc Try.prog 129 = some (false, 1) := by kernel_rfl
theorem zer_129 : zer Try.prog 129 = some [Go.Value.nilFunc] := by kernel_rfl
theorem tyc_130 : tyc Try.prog 130 = some (false, 1) := by kernel_rfl
theorem zer_130 : zer Try.prog 130 = some [Go.Value.nilFunc] := by kernel_rfl
theorem tyc_131 : tyc Try.prog 131 = some (false, 1) := by kernel_rfl
theorem zer_131 : zer Try.prog 131 = some [Go.Value.pointer none] := by kernel_rfl
theorem zds_131 : zds Try.prog 131 = some [.v (Go.Value.pointer none)] := by kernel_rfl
theorem apf_131 : apf Try.prog 131 = some (1, 8) := by kernel_rfl
theorem tyc_132 : tyc Try.prog 132 = some (false, 1) := by kernel_rfl
theorem zer_132 : zer Try.prog 132 = some [Go.Value.slice none 0 0] := by kernel_rfl
theorem zds_132 : zds Try.prog 132 = some [.sl 1 []] := by kernel_rfl
theorem elt_132 : elt Try.prog 132 = some (102, 1) := by kernel_rfl
theorem apf_132 : apf Try.prog 132 = some (1, 24) := by kernel_rfl
theorem tyc_133 : tyc Try.prog 133 = some (true, 5) := by kernel_rfl
theorem zer_133 : zer Try.prog 133 = some [Go.Value.int Go.IntKind.i64 0, Go.Value.int Go.IntKind.i64 0, Go.Value.int Go.IntKind.i64 0, Go.Value.int Go.IntKind.i64 0, Go.Value.int Go.IntKind.i64 0] := by kernel_rfl
theorem zds_133 : zds Try.prog 133 = some [.v (Go.Value.int Go.IntKind.i64 0), .v (Go.Value.int Go.IntKind.i64 0), .v (Go.Value.int Go.IntKind.i64 0), .v (Go.Value.int Go.IntKind.i64 0), .v (Go.Value.int Go.IntKind.i64 0)] := by kernel_rfl
theorem arr_133 : arr Try.prog 133 = some (5, 3, 1) := by kernel_rfl
theorem stf_133 : stf Try.prog 133 = none := by kernel_rfl
theorem apf_133 : apf Try.prog 133 = some (5, 40) := by kernel_rfl
theorem tyc_134 : tyc Try.prog 134 = some (false, 1) := by kernel_rfl
theorem zer_134 : zer Try.prog 134 = some [Go.Value.nilFunc] := by kernel_rfl
theorem tyc_135 : tyc Try.prog 135 = some (false, 1) := by kernel_rfl
theorem zer_135 : zer Try.prog 135 = some [Go.Value.nilFunc] := by kernel_rfl
theorem tyc_136 : tyc Try.prog 136 = some (true, 3) := by kernel_rfl
theorem zer_136 : zer Try.prog 136 = some [Go.Value.int Go.IntKind.i64 0, Go.Value.int Go.IntKind.i64 0, Go.Value.int Go.IntKind.i64 0] := by kernel_rfl
theorem zds_136 : zds Try.prog 136 = some [.v (Go.Value.int Go.IntKind.i64 0), .v (Go.Value.int Go.IntKind.i64 0), .v (Go.Value.int Go.IntKind.i64 0)] := by kernel_rfl
theorem fld_136_0 : fld Try.prog 136 0 = some (0, 94) := by kernel_rfl
theorem stf_136 : stf Try.prog 136 = some [(0, 3)] := by kernel_rfl
theorem arr_136 : arr Try.prog 136 = none := by kernel_rfl
theorem apf_136 : apf Try.prog 136 = some (3, 24) := by kernel_rfl
theorem tyc_137 : tyc Try.prog 137 = some (true, 3) := by kernel_rfl
theorem zer_137 : zer Try.prog 137 = some [Go.Value.int Go.IntKind.i64 0, Go.Value.int Go.IntKind.i64 0, Go.Value.int Go.IntKind.i64 0] := by kernel_rfl
theorem zds_137 : zds Try.prog 137 = some [.v (Go.Value.int Go.IntKind.i64 0), .v (Go.Value.int Go.IntKind.i64 0), .v (Go.Value.int Go.IntKind.i64 0)] := by kernel_rfl
theorem fld_137_0 : fld Try.prog 137 0 = some (0, 94) := by kernel_rfl
theorem stf_137 : stf Try.prog 137 = some [(0, 3)] := by kernel_rfl
theorem arr_137 : arr Try.prog 137 = none := by kernel_rfl
theorem apf_137 : apf Try.prog 137 = some (3, 24) := by kernel_rfl
theorem tyc_138 : tyc Try.prog 138 = some (false, 1) := by kernel_rfl
theorem zer_138 : zer Try.prog 138 = some [Go.Value.nilFunc] := by kernel_rfl
theorem tyc_139 : tyc Try.prog 139 = some (false, 1) := by kernel_rfl
theorem zer_139 : zer Try.prog 139 = some [Go.Value.nilFunc] := by kernel_rfl
theorem tyc_140 : tyc Try.prog 140 = some (false, 1) := by kernel_rfl
theorem zer_140 : zer Try.prog 140 = some [Go.Value.nilFunc] := by kernel_rfl
theorem tyc_141 : tyc Try.prog 141 = some (false, 1) := by kernel_rfl
theorem zer_141 : zer Try.prog 141 = some [Go.Value.nilFunc] := by kernel_rfl
theorem tyc_142 : tyc Try.prog 142 = some (false, 1) := by kernel_rfl
theorem zer_142 : zer Try.prog 142 = some [Go.Value.nilFunc] := by kernel_rfl
theorem tyc_143 : tyc Try.prog 143 = some (false, 1) := by kernel_rfl
theorem zer_143 : zer Try.prog 143 = some [Go.Value.nilFunc] := by kernel_rfl
theorem tyc_144 : tyc Try.prog 144 = some (false, 1) := by kernel_rfl
theorem zer_144 : zer Try.prog 144 = some [Go.Value.nilFunc] := by kernel_rfl
theorem tyc_145 : tyc Try.prog 145 = some (false, 1) := by kernel_rfl
theorem zer_145 : zer Try.prog 145 = some [Go.Value.nilFunc] := by kernel_rfl
theorem tyc_146 : tyc Try.prog 146 = some (true, 2501) := by kernel_rfl
theorem arr_146 : arr Try.prog 146 = some (2501, 4, 1) := by kernel_rfl
theorem stf_146 : stf Try.prog 146 = none := by kernel_rfl
theorem apf_146 : apf Try.prog 146 = some (2501, 2501) := by kernel_rfl
theorem tyc_147 : tyc Try.prog 147 = some (false, 1) := by kernel_rfl
theorem zer_147 : zer Try.prog 147 = some [Go.Value.nilFunc] := by kernel_rfl
theorem tyc_148 : tyc Try.prog 148 = some (true, 4) := by kernel_rfl
theorem zer_148 : zer Try.prog 148 = some [Go.Value.pointer none, Go.Value.pointer none, Go.Value.pointer none, Go.Value.string { data := #[] }] := by kernel_rfl
theorem zds_148 : zds Try.prog 148 = some [.v (Go.Value.pointer none), .v (Go.Value.pointer none), .v (Go.Value.pointer none), .v (Go.Value.string { data := #[] })] := by kernel_rfl
theorem fld_148_0 : fld Try.prog 148 0 = some (0, 17) := by kernel_rfl
theorem fld_148_1 : fld Try.prog 148 1 = some (1, 17) := by kernel_rfl
theorem fld_148_2 : fld Try.prog 148 2 = some (2, 17) := by kernel_rfl
theorem fld_148_3 : fld Try.prog 148 3 = some (3, 9) := by kernel_rfl
theorem stf_148 : stf Try.prog 148 = some [(0, 1), (1, 1), (2, 1), (3, 1)] := by kernel_rfl
theorem arr_148 : arr Try.prog 148 = none := by kernel_rfl
theorem apf_148 : apf Try.prog 148 = some (4, 40) := by kernel_rfl
theorem tyc_149 : tyc Try.prog 149 = some (true, 4) := by kernel_rfl
theorem zer_149 : zer Try.prog 149 = some [Go.Value.pointer none, Go.Value.pointer none, Go.Value.pointer none, Go.Value.string { data := #[] }] := by kernel_rfl
theorem zds_149 : zds Try.prog 149 = some [.v (Go.Value.pointer none), .v (Go.Value.pointer none), .v (Go.Value.pointer none), .v (Go.Value.string { data := #[] })] := by kernel_rfl
theorem fld_149_0 : fld Try.prog 149 0 = some (0, 17) := by kernel_rfl
theorem fld_149_1 : fld Try.prog 149 1 = some (1, 17) := by kernel_rfl
theorem fld_149_2 : fld Try.prog 149 2 = some (2, 17) := by kernel_rfl
theorem fld_149_3 : fld Try.prog 149 3 = some (3, 9) := by kernel_rfl
theorem stf_149 : stf Try.prog 149 = some [(0, 1), (1, 1), (2, 1), (3, 1)] := by kernel_rfl
theorem arr_149 : arr Try.prog 149 = none := by kernel_rfl
theorem apf_149 : apf Try.prog 149 = some (4, 40) := by kernel_rfl
theorem tyc_150 : tyc Try.prog 150 = some (true, 0) := by kernel_rfl
theorem zer_150 : zer Try.prog 150 = some [] := by kernel_rfl
theorem zds_150 : zds Try.prog 150 = some [] := by kernel_rfl
theorem arr_150 : arr Try.prog 150 = some (0, 16, 1) := by kernel_rfl
theorem stf_150 : stf Try.prog 150 = none := by kernel_rfl
theorem tyc_151 : tyc Try.prog 151 = some (true, 0) := by kernel_rfl
theorem zer_151 : zer Try.prog 151 = some [] := by kernel_rfl
theorem zds_151 : zds Try.prog 151 = some [] := by kernel_rfl
theorem stf_151 : stf Try.prog 151 = some [(0, 0)] := by kernel_rfl
theorem arr_151 : arr Try.prog 151 = none := by kernel_rfl
theorem tyc_152 : tyc Try.prog 152 = some (true, 0) := by kernel_rfl
theorem zer_152 : zer Try.prog 152 = some [] := by kernel_rfl
theorem zds_152 : zds Try.prog 152 = some [] := by kernel_rfl
theorem stf_152 : stf Try.prog 152 = some [(0, 0)] := by kernel_rfl
theorem arr_152 : arr Try.prog 152 = none := by kernel_rfl
theorem tyc_153 : tyc Try.prog 153 = some (false, 1) := by kernel_rfl
theorem zer_153 : zer Try.prog 153 = some [Go.Value.nilFunc] := by kernel_rfl
theorem tyc_154 : tyc Try.prog 154 = some (false, 1) := by kernel_rfl
theorem zer_154 : zer Try.prog 154 = some [Go.Value.int Go.IntKind.u32 0] := by kernel_rfl
theorem zds_154 : zds Try.prog 154 = some [.v (Go.Value.int Go.IntKind.u32 0)] := by kernel_rfl
theorem und_154 : Try.prog.underlying 154 = some (.int .u32) := by kernel_rfl
theorem apf_154 : apf Try.prog 154 = some (1, 4) := by kernel_rfl
theorem tyc_155 : tyc Try.prog 155 = some (false, 1) := by kernel_rfl
theorem zer_155 : zer Try.prog 155 = some [Go.Value.int Go.IntKind.u8 0] := by kernel_rfl
theorem zds_155 : zds Try.prog 155 = some [.v (Go.Value.int Go.IntKind.u8 0)] := by kernel_rfl
theorem und_155 : Try.prog.underlying 155 = some (.int .u8) := by kernel_rfl
theorem apf_155 : apf Try.prog 155 = some (1, 1) := by kernel_rfl
theorem tyc_156 : tyc Try.prog 156 = some (false, 1) := by kernel_rfl
theorem zer_156 : zer Try.prog 156 = some [Go.Value.int Go.IntKind.u8 0] := by kernel_rfl
theorem zds_156 : zds Try.prog 156 = some [.v (Go.Value.int Go.IntKind.u8 0)] := by kernel_rfl
theorem und_156 : Try.prog.underlying 156 = some (.int .u8) := by kernel_rfl
theorem apf_156 : apf Try.prog 156 = some (1, 1) := by kernel_rfl
theorem tyc_157 : tyc Try.prog 157 = some (false, 1) := by kernel_rfl
theorem zer_157 : zer Try.prog 157 = some [Go.Value.nilFunc] := by kernel_rfl
theorem tyc_158 : tyc Try.prog 158 = some (false, 1) := by kernel_rfl
theorem zer_158 : zer Try.prog 158 = some [Go.Value.pointer none] := by kernel_rfl
theorem zds_158 : zds Try.prog 158 = some [.v (Go.Value.pointer none)] := by kernel_rfl
theorem apf_158 : apf Try.prog 158 = some (1, 8) := by kernel_rfl
theorem tyc_159 : tyc Try.prog 159 = some (false, 1) := by kernel_rfl
theorem zer_159 : zer Try.prog 159 = some [Go.Value.int Go.IntKind.i32 0] := by kernel_rfl
theorem zds_159 : zds Try.prog 159 = some [.v (Go.Value.int Go.IntKind.i32 0)] := by kernel_rfl
theorem und_159 : Try.prog.underlying 159 = some (.int .i32) := by kernel_rfl
theorem apf_159 : apf Try.prog 159 = some (1, 4) := by kernel_rfl
theorem tyc_160 : tyc Try.prog 160 = some (false, 1) := by kernel_rfl
theorem zer_160 : zer Try.prog 160 = some [Go.Value.int Go.IntKind.i32 0] := by kernel_rfl
theorem zds_160 : zds Try.prog 160 = some [.v (Go.Value.int Go.IntKind.i32 0)] := by kernel_rfl
theorem und_160 : Try.prog.underlying 160 = some (.int .i32) := by kernel_rfl
theorem apf_160 : apf Try.prog 160 = some (1, 4) := by kernel_rfl
theorem tyc_161 : tyc Try.prog 161 = some (true, 11) := by kernel_rfl
theorem zer_161 : zer Try.prog 161 = some [Go.Value.int Go.IntKind.u64 0, Go.Value.int Go.IntKind.u64 0, Go.Value.int Go.IntKind.u32 0, Go.Value.int Go.IntKind.u8 0, Go.Value.int Go.IntKind.u8 0, Go.Value.int Go.IntKind.u8 0, Go.Value.int Go.IntKind.u8 0, Go.Value.nilFunc, Go.Value.pointer none, Go.Value.int Go.IntKind.i32 0, Go.Value.int Go.IntKind.i32 0] := by kernel_rfl
theorem zds_161 : zds Try.prog 161 = some [.v (Go.Value.int Go.IntKind.u64 0), .v (Go.Value.int Go.IntKind.u64 0), .v (Go.Value.int Go.IntKind.u32 0), .v (Go.Value.int Go.IntKind.u8 0), .v (Go.Value.int Go.IntKind.u8 0), .v (Go.Value.int Go.IntKind.u8 0), .v (Go.Value.int Go.IntKind.u8 0), .v (Go.Value.nilFunc), .v (Go.Value.pointer none), .v (Go.Value.int Go.IntKind.i32 0), .v (Go.Value.int Go.IntKind.i32 0)] := by kernel_rfl
theorem fld_161_0 : fld Try.prog 161 0 = some (0, 12) := by kernel_rfl
theorem fld_161_1 : fld Try.prog 161 1 = some (1, 12) := by kernel_rfl
theorem fld_161_2 : fld Try.prog 161 2 = some (2, 154) := by kernel_rfl
theorem fld_161_3 : fld Try.prog 161 3 = some (3, 155) := by kernel_rfl
theorem fld_161_4 : fld Try.prog 161 4 = some (4, 5) := by kernel_rfl
theorem fld_161_5 : fld Try.prog 161 5 = some (5, 5) := by kernel_rfl
theorem fld_161_6 : fld Try.prog 161 6 = some (6, 156) := by kernel_rfl
theorem fld_161_7 : fld Try.prog 161 7 = some (7, 157) := by kernel_rfl
theorem fld_161_8 : fld Try.prog 161 8 = some (8, 158) := by kernel_rfl
theorem fld_161_9 : fld Try.prog 161 9 = some (9, 159) := by kernel_rfl
theorem fld_161_10 : fld Try.prog 161 10 = some (10, 160) := by kernel_rfl
theorem stf_161 : stf Try.prog 161 = some [(0, 1), (1, 1), (2, 1), (3, 1), (4, 1), (5, 1), (6, 1), (7, 1), (8, 1), (9, 1), (10, 1)] := by kernel_rfl
theorem arr_161 : arr Try.prog 161 = none := by kernel_rfl
theorem apf_161 : apf Try.prog 161 = some (11, 48) := by kernel_rfl
theorem tyc_162 : tyc Try.prog 162 = some (true, 11) := by kernel_rfl
theorem zer_162 : zer Try.prog 162 = some [Go.Value.int Go.IntKind.u64 0, Go.Value.int Go.IntKind.u64 0, Go.Value.int Go.IntKind.u32 0, Go.Value.int Go.IntKind.u8 0, Go.Value.int Go.IntKind.u8 0, Go.Value.int Go.IntKind.u8 0, Go.Value.int Go.IntKind.u8 0, Go.Value.nilFunc, Go.Value.pointer none, Go.Value.int Go.IntKind.i32 0, Go.Value.int Go.IntKind.i32 0] := by kernel_rfl
theorem zds_162 : zds Try.prog 162 = some [.v (Go.Value.int Go.IntKind.u64 0), .v (Go.Value.int Go.IntKind.u64 0), .v (Go.Value.int Go.IntKind.u32 0), .v (Go.Value.int Go.IntKind.u8 0), .v (Go.Value.int Go.IntKind.u8 0), .v (Go.Value.int Go.IntKind.u8 0), .v (Go.Value.int Go.IntKind.u8 0), .v (Go.Value.nilFunc), .v (Go.Value.pointer none), .v (Go.Value.int Go.IntKind.i32 0), .v (Go.Value.int Go.IntKind.i32 0)] := by kernel_rfl
theorem fld_162_0 : fld Try.prog 162 0 = some (0, 12) := by kernel_rfl
theorem fld_162_1 : fld Try.prog 162 1 = some (1, 12) := by kernel_rfl
theorem fld_162_2 : fld Try.prog 162 2 = some (2, 154) := by kernel_rfl
theorem fld_162_3 : fld Try.prog 162 3 = some (3, 155) := by kernel_rfl
theorem fld_162_4 : fld Try.prog 162 4 = some (4, 5) := by kernel_rfl
theorem fld_162_5 : fld Try.prog 162 5 = some (5, 5) := by kernel_rfl
theorem fld_162_6 : fld Try.prog 162 6 = some (6, 156) := by kernel_rfl
theorem fld_162_7 : fld Try.prog 162 7 = some (7, 157) := by kernel_rfl
theorem fld_162_8 : fld Try.prog 162 8 = some (8, 158) := by kernel_rfl
theorem fld_162_9 : fld Try.prog 162 9 = some (9, 159) := by kernel_rfl
theorem fld_162_10 : fld Try.prog 162 10 = some (10, 160) := by kernel_rfl
theorem stf_162 : stf Try.prog 162 = some [(0, 1), (1, 1), (2, 1), (3, 1), (4, 1), (5, 1), (6, 1), (7, 1), (8, 1), (9, 1), (10, 1)] := by kernel_rfl
theorem arr_162 : arr Try.prog 162 = none := by kernel_rfl
theorem apf_162 : apf Try.prog 162 = some (11, 48) := by kernel_rfl
theorem zro_4 : zro Try.prog 4 = some (Go.Value.bool false) := by kernel_rfl
theorem fun_0 : Try.prog.funcs[0]? = some Try.f0 := by kernel_rfl
theorem fun_1 : Try.prog.funcs[1]? = some Try.f1 := by kernel_rfl
theorem fun_2 : Try.prog.funcs[2]? = some Try.f2 := by kernel_rfl
theorem fun_3 : Try.prog.funcs[3]? = some Try.f3 := by kernel_rfl
theorem fun_4 : Try.prog.funcs[4]? = some Try.f4 := by kernel_rfl
theorem fun_5 : Try.prog.funcs[5]? = some Try.f5 := by kernel_rfl
theorem fun_6 : Try.prog.funcs[6]? = some Try.f6 := by kernel_rfl
theorem fun_7 : Try.prog.funcs[7]? = some Try.f7 := by kernel_rfl
theorem fun_8 : Try.prog.funcs[8]? = some Try.f8 := by kernel_rfl
theorem fun_9 : Try.prog.funcs[9]? = some Try.f9 := by kernel_rfl
theorem fun_10 : Try.prog.funcs[10]? = some Try.f10 := by kernel_rfl
theorem fun_11 : Try.prog.funcs[11]? = some Try.f11 := by kernel_rfl
theorem fun_12 : Try.prog.funcs[12]? = some Try.f12 := by kernel_rfl
theorem fun_13 : Try.prog.funcs[13]? = some Try.f13 := by kernel_rfl
theorem fun_14 : Try.prog.funcs[14]? = some Try.f14 := by kernel_rfl
theorem fun_15 : Try.prog.funcs[15]? = some Try.f15 := by kernel_rfl
theorem fun_16 : Try.prog.funcs[16]? = some Try.f16 := by kernel_rfl
theorem fun_17 : Try.prog.funcs[17]? = some Try.f17 := by kernel_rfl
theorem fun_18 : Try.prog.funcs[18]? = some Try.f18 := by kernel_rfl
theorem fun_19 : Try.prog.funcs[19]? = some Try.f19 := by kernel_rfl
theorem fun_20 : Try.prog.funcs[20]? = some Try.f20 := by kernel_rfl
theorem fun_21 : Try.prog.funcs[21]? = some Try.f21 := by kernel_rfl
theorem fun_22 : Try.prog.funcs[22]? = some Try.f22 := by kernel_rfl
theorem fun_23 : Try.prog.funcs[23]? = some Try.f23 := by kernel_rfl
theorem fun_24 : Try.prog.funcs[24]? = some Try.f24 := by kernel_rfl
theorem fun_25 : Try.prog.funcs[25]? = some Try.f25 := by kernel_rfl
theorem fun_26 : Try.prog.funcs[26]? = some Try.f26 := by kernel_rfl
theorem fun_27 : Try.prog.funcs[27]? = some Try.f27 := by kernel_rfl
theorem fun_28 : Try.prog.funcs[28]? = some Try.f28 := by kernel_rfl
theorem fun_29 : Try.prog.funcs[29]? = some Try.f29 := by kernel_rfl
theorem fun_30 : Try.prog.funcs[30]? = some Try.f30 := by kernel_rfl
theorem fun_31 : Try.prog.funcs[31]? = some Try.f31 := by kernel_rfl
theorem fun_32 : Try.prog.funcs[32]? = some Try.f32 := by kernel_rfl
theorem fun_33 : Try.prog.funcs[33]? = some Try.f33 := by kernel_rfl
theorem fun_34 : Try.prog.funcs[34]? = some Try.f34 := by kernel_rfl
theorem fun_35 : Try.prog.funcs[35]? = some Try.f35 := by kernel_rfl
theorem fun_36 : Try.prog.funcs[36]? = some Try.f36 := by kernel_rfl
theorem fun_37 : Try.prog.funcs[37]? = some Try.f37 := by kernel_rfl
theorem fun_38 : Try.prog.funcs[38]? = some Try.f38 := by kernel_rfl
theorem fun_39 : Try.prog.funcs[39]? = some Try.f39 := by kernel_rfl
theorem fun_40 : Try.prog.funcs[40]? = some Try.f40 := by kernel_rfl
theorem fun_41 : Try.prog.funcs[41]? = some Try.f41 := by kernel_rfl
theorem fun_42 : Try.prog.funcs[42]? = some Try.f42 := by kernel_rfl
theorem fun_43 : Try.prog.funcs[43]? = some Try.f43 := by kernel_rfl
theorem fun_44 : Try.prog.funcs[44]? = some Try.f44 := by kernel_rfl
theorem fun_45 : Try.prog.funcs[45]? = some Try.f45 := by kernel_rfl
theorem fun_46 : Try.prog.funcs[46]? = some Try.f46 := by kernel_rfl
theorem fun_47 : Try.prog.funcs[47]? = some Try.f47 := by kernel_rfl
theorem fun_48 : Try.prog.funcs[48]? = some Try.f48 := by kernel_rfl
theorem fun_49 : Try.prog.funcs[49]? = some Try.f49 := by kernel_rfl
theorem fun_50 : Try.prog.funcs[50]? = some Try.f50 := by kernel_rfl
theorem fun_51 : Try.prog.funcs[51]? = some Try.f51 := by kernel_rfl
theorem fun_52 : Try.prog.funcs[52]? = some Try.f52 := by kernel_rfl
theorem fun_53 : Try.prog.funcs[53]? = some Try.f53 := by kernel_rfl
theorem fun_54 : Try.prog.funcs[54]? = some Try.f54 := by kernel_rfl
theorem fun_55 : Try.prog.funcs[55]? = some Try.f55 := by kernel_rfl
theorem fun_56 : Try.prog.funcs[56]? = some Try.f56 := by kernel_rfl
theorem fun_57 : Try.prog.funcs[57]? = some Try.f57 := by kernel_rfl
theorem fun_58 : Try.prog.funcs[58]? = some Try.f58 := by kernel_rfl
theorem fun_59 : Try.prog.funcs[59]? = some Try.f59 := by kernel_rfl
theorem fun_60 : Try.prog.funcs[60]? = some Try.f60 := by kernel_rfl
theorem fun_61 : Try.prog.funcs[61]? = some Try.f61 := by kernel_rfl
theorem fun_62 : Try.prog.funcs[62]? = some Try.f62 := by kernel_rfl
theorem fun_63 : Try.prog.funcs[63]? = some Try.f63 := by kernel_rfl
theorem fun_64 : Try.prog.funcs[64]? = some Try.f64 := by kernel_rfl
theorem fun_65 : Try.prog.funcs[65]? = some Try.f65 := by kernel_rfl
theorem fun_66 : Try.prog.funcs[66]? = some Try.f66 := by kernel_rfl
theorem fun_67 : Try.prog.funcs[67]? = some Try.f67 := by kernel_rfl
theorem fun_68 : Try.prog.funcs[68]? = some Try.f68 := by kernel_rfl
theorem fun_69 : Try.prog.funcs[69]? = some Try.f69 := by kernel_rfl
theorem fun_70 : Try.prog.funcs[70]? = some Try.f70 := by kernel_rfl
theorem fun_71 : Try.prog.funcs[71]? = some Try.f71 := by kernel_rfl
theorem fun_72 : Try.prog.funcs[72]? = some Try.f72 := by kernel_rfl
theorem fun_73 : Try.prog.funcs[73]? = some Try.f73 := by kernel_rfl
theorem fun_74 : Try.prog.funcs[74]? = some Try.f74 := by kernel_rfl
theorem fun_75 : Try.prog.funcs[75]? = some Try.f75 := by kernel_rfl
theorem fun_76 : Try.prog.funcs[76]? = some Try.f76 := by kernel_rfl
theorem fun_77 : Try.prog.funcs[77]? = some Try.f77 := by kernel_rfl
theorem fun_78 : Try.prog.funcs[78]? = some Try.f78 := by kernel_rfl
theorem fun_79 : Try.prog.funcs[79]? = some Try.f79 := by kernel_rfl
theorem fun_80 : Try.prog.funcs[80]? = some Try.f80 := by kernel_rfl
theorem fun_81 : Try.prog.funcs[81]? = some Try.f81 := by kernel_rfl
theorem fun_82 : Try.prog.funcs[82]? = some Try.f82 := by kernel_rfl
theorem fun_83 : Try.prog.funcs[83]? = some Try.f83 := by kernel_rfl
theorem fun_84 : Try.prog.funcs[84]? = some Try.f84 := by kernel_rfl
theorem fun_85 : Try.prog.funcs[85]? = some Try.f85 := by kernel_rfl
theorem fun_86 : Try.prog.funcs[86]? = some Try.f86 := by kernel_rfl
theorem fun_87 : Try.prog.funcs[87]? = some Try.f87 := by kernel_rfl
theorem fun_88 : Try.prog.funcs[88]? = some Try.f88 := by kernel_rfl
theorem fun_89 : Try.prog.funcs[89]? = some Try.f89 := by kernel_rfl
theorem fun_90 : Try.prog.funcs[90]? = some Try.f90 := by kernel_rfl
theorem fun_91 : Try.prog.funcs[91]? = some Try.f91 := by kernel_rfl
theorem fun_92 : Try.prog.funcs[92]? = some Try.f92 := by kernel_rfl
theorem fun_93 : Try.prog.funcs[93]? = some Try.f93 := by kernel_rfl
theorem fun_94 : Try.prog.funcs[94]? = some Try.f94 := by kernel_rfl
theorem fun_95 : Try.prog.funcs[95]? = some Try.f95 := by kernel_rfl
theorem fun_96 : Try.prog.funcs[96]? = some Try.f96 := by kernel_rfl
theorem fun_97 : Try.prog.funcs[97]? = some Try.f97 := by kernel_rfl
theorem fun_98 : Try.prog.funcs[98]? = some Try.f98 := by kernel_rfl
theorem fun_99 : Try.prog.funcs[99]? = some Try.f99 := by kernel_rfl
def fA0 := (And.intro (And.intro (And.intro (And.intro (And.intro (And.intro (And.intro (And.intro (And.intro @tyc_1 @zer_1) (And.intro @tyc_2 (And.intro @zer_2 @zds_2))) (And.intro (And.intro @und_2 @apf_2) (And.intro @tyc_3 (And.intro @zer_3 @zds_3)))) (And.intro (And.intro (And.intro @und_3 @apf_3) (And.intro @tyc_4 (And.intro @zer_4 @zds_4))) (And.intro (And.intro @und_4 @apf_4) (And.intro @tyc_5 (And.intro @zer_5 @zds_5))))) (And.intro (And.intro (And.intro (And.intro @und_5 @apf_5) (And.intro @tyc_6 (And.intro @zer_6 @zds_6))) (And.intro (And.intro @und_6 @apf_6) (And.intro @tyc_7 (And.intro @zer_7 @zds_7)))) (And.intro (And.intro (And.intro @fld_7_0 @fld_7_1) (And.intro @fld_7_2 (And.intro @fld_7_3 @stf_7))) (And.intro (And.intro @arr_7 @apf_7) (And.intro @tyc_8 (And.intro @zer_8 @zds_8)))))) (And.intro (And.intro (And.intro (And.intro (And.intro @fld_8_0 @fld_8_1) (And.intro @fld_8_2 (And.intro @fld_8_3 @stf_8))) (And.intro (And.intro @arr_8 @apf_8) (And.intro @tyc_9 (And.intro @zer_9 @zds_9)))) (And.intro (And.intro (And.intro @apf_9 @tyc_10) (And.intro @zer_10 (And.intro @zds_10 @apf_10))) (And.intro (And.intro @tyc_11 @zer_11) (And.intro @zds_11 (And.intro @apf_11 @tyc_12))))) (And.intro (And.intro (And.intro (And.intro @zer_12 @zds_12) (And.intro @und_12 (And.intro @apf_12 @tyc_13))) (And.intro (And.intro @zer_13 @zds_13) (And.intro @fld_13_0 (And.intro @fld_13_1 @stf_13)))) (And.intro (And.intro (And.intro @arr_13 @apf_13) (And.intro @tyc_14 (And.intro @zer_14 @zds_14))) (And.intro (And.intro @fld_14_0 @fld_14_1) (And.intro @stf_14 (And.intro @arr_14 @apf_14))))))) (And.intro (And.intro (And.intro (And.intro (And.intro (And.intro @tyc_15 @zer_15) (And.intro @zds_15 (And.intro @apf_15 @tyc_16))) (And.intro (And.intro @zer_16 @zds_16) (And.intro @apf_16 (And.intro @tyc_17 @zer_17)))) (And.intro (And.intro (And.intro @zds_17 @apf_17) (And.intro @tyc_18 (And.intro @zer_18 @zds_18))) (And.intro (And.intro @fld_18_0 @stf_18) (And.intro @arr_18 (And.intro @apf_18 @tyc_19))))) (And.intro (And.intro (And.intro (And.intro @zer_19 @zds_19) (And.intro @fld_19_0 (And.intro @stf_19 @arr_19))) (And.intro (And.intro @apf_19 @tyc_21) (And.intro @zer_21 (And.intro @zds_21 @und_21)))) (And.intro (And.intro (And.intro @apf_21 @tyc_22) (And.intro @zer_22 (And.intro @zds_22 @elt_22))) (And.intro (And.intro @apf_22 @tyc_23) (And.intro @zer_23 (And.intro @zds_23 @fld_23_0)))))) (And.intro (And.intro (And.intro (And.intro (And.intro @fld_23_1 @fld_23_2) (And.intro @stf_23 (And.intro @arr_23 @apf_23))) (And.intro (And.intro @tyc_24 @zer_24) (And.intro @zds_24 (And.intro @fld_24_0 @fld_24_1)))) (And.intro (And.intro (And.intro @fld_24_2 @stf_24) (And.intro @arr_24 (And.intro @apf_24 @tyc_25))) (And.intro (And.intro @zer_25 @tyc_26) (And.intro @zer_26 (And.intro @tyc_27 @zer_27))))) (And.intro (And.intro (And.intro (And.intro @zds_27 @und_27) (And.intro @apf_27 (And.intro @tyc_29 @zer_29))) (And.intro (And.intro @tyc_30 @zer_30) (And.intro @tyc_31 (And.intro @zer_31 @tyc_32)))) (And.intro (And.intro (And.intro @zer_32 @tyc_33) (And.intro @zer_33 (And.intro @zds_33 @fld_33_0))) (And.intro (And.intro @fld_33_1 (And.intro @fld_33_2 @stf_33)) (And.intro @arr_33 (And.intro @apf_33 @tyc_34)))))))) (And.intro (And.intro (And.intro (And.intro (And.intro (And.intro (And.intro @zer_34 @zds_34) (And.intro @fld_34_0 (And.intro @fld_34_1 @fld_34_2))) (And.intro (And.intro @stf_34 @arr_34) (And.intro @apf_34 (And.intro @tyc_35 @zer_35)))) (And.intro (And.intro (And.intro @tyc_37 @zer_37) (And.intro @tyc_38 (And.intro @zer_38 @tyc_39))) (And.intro (And.intro @zer_39 @zds_39) (And.intro @fld_39_0 (And.intro @fld_39_1 @stf_39))))) (And.intro (And.intro (And.intro (And.intro @arr_39 @apf_39) (And.intro @tyc_40 (And.intro @zer_40 @zds_40))) (And.intro (And.intro @fld_40_0 @fld_40_1) (And.intro @stf_40 (And.intro @arr_40 @apf_40)))) (And.intro (And.intro (And.intro @tyc_41 @zer_41) (And.intro @tyc_42 (And.intro @zer_42 @zds_42))) (And.intro (And.intro @elt_42 @apf_42) (And.intro @tyc_44 (And.intro @zer_44 @tyc_45)))))) (And.intro (And.intro (And.intro (And.intro (And.intro @zer_45 @tyc_46) (And.intro @zer_46 (And.intro @tyc_47 @zer_47))) (And.intro (And.intro @tyc_48 @zer_48) (And.intro @tyc_49 (And.intro @zer_49 @zds_49)))) (And.intro (And.intro (And.intro @elt_49 @apf_49) (And.intro @tyc_50 (And.intro @zer_50 @zds_50))) (And.intro (And.intro @fld_50_0 @fld_50_1) (And.intro @stf_50 (And.intro @arr_50 @apf_50))))) (And.intro (And.intro (And.intro (And.intro @tyc_51 @zer_51) (And.intro @zds_51 (And.intro @fld_51_0 @fld_51_1))) (And.intro (And.intro @stf_51 @arr_51) (And.intro @apf_51 (And.intro @tyc_52 @zer_52)))) (And.intro (And.intro (And.intro @tyc_53 @zer_53) (And.intro @tyc_54 (And.intro @zer_54 @tyc_55))) (And.intro (And.intro @zer_55 @zds_55) (And.intro @elt_55 (And.intro @apf_55 @tyc_57))))))) (And.intro (And.intro (And.intro (And.intro (And.intro (And.intro @zer_57 @tyc_58) (And.intro @zer_58 (And.intro @tyc_59 @zer_59))) (And.intro (And.intro @tyc_60 @zer_60) (And.intro @tyc_61 (And.intro @zer_61 @zds_61)))) (And.intro (And.intro (And.intro @und_61 @apf_61) (And.intro @tyc_62 (And.intro @zer_62 @zds_62))) (And.intro (And.intro @fld_62_0 @fld_62_1) (And.intro @stf_62 (And.intro @arr_62 @apf_62))))) (And.intro (And.intro (And.intro (And.intro @tyc_63 @zer_63) (And.intro @zds_63 (And.intro @fld_63_0 @fld_63_1))) (And.intro (And.intro @stf_63 @arr_63) (And.intro @apf_63 (And.intro @tyc_64 @zer_64)))) (And.intro (And.intro (And.intro @zds_64 @fld_64_0) (And.intro @fld_64_1 (And.intro @stf_64 @arr_64))) (And.intro (And.intro @apf_64 @tyc_65) (And.intro @zer_65 (And.intro @zds_65 @fld_65_0)))))) (And.intro (And.intro (And.intro (And.intro (And.intro @fld_65_1 @stf_65) (And.intro @arr_65 (And.intro @apf_65 @tyc_66))) (And.intro (And.intro @zer_66 @tyc_67) (And.intro @zer_67 (And.intro @zds_67 @elt_67)))) (And.intro (And.intro (And.intro @apf_67 @tyc_68) (And.intro @zer_68 (And.intro @tyc_69 @zer_69))) (And.intro (And.intro @tyc_70 @zer_70) (And.intro @zds_70 (And.intro @elt_70 @apf_70))))) (And.intro (And.intro (And.intro (And.intro @tyc_72 @zer_72) (And.intro @tyc_73 (And.intro @zer_73 @zds_73))) (And.intro (And.intro @elt_73 @apf_73) (And.intro @tyc_74 (And.intro @zer_74 @tyc_75)))) (And.intro (And.intro (And.intro @zer_75 @zds_75) (And.intro @fld_75_0 (And.intro @fld_75_1 @stf_75))) (And.intro (And.intro @arr_75 (And.intro @apf_75 @tyc_76)) (And.intro @zer_76 (And.intro @zds_76 @fld_76_0))))))))) (And.intro (And.intro (And.intro (And.intro (And.intro (And.intro (And.intro (And.intro @fld_76_1 @stf_76) (And.intro @arr_76 (And.intro @apf_76 @tyc_77))) (And.intro (And.intro @zer_77 @tyc_79) (And.intro @zer_79 (And.intro @tyc_80 @zer_80)))) (And.intro (And.intro (And.intro @tyc_81 @zer_81) (And.intro @tyc_82 (And.intro @zer_82 @tyc_83))) (And.intro (And.intro @zer_83 @tyc_84) (And.intro @zer_84 (And.intro @tyc_85 @zer_85))))) (And.intro (And.intro (And.intro (And.intro @tyc_86 @zer_86) (And.intro @zds_86 (And.intro @fld_86_0 @stf_86))) (And.intro (And.intro @arr_86 @apf_86) (And.intro @tyc_87 (And.intro @zer_87 @zds_87)))) (And.intro (And.intro (And.intro @fld_87_0 @stf_87) (And.intro @arr_87 (And.intro @apf_87 @tyc_89))) (And.intro (And.intro @zer_89 @tyc_90) (And.intro @zer_90 (And.intro @tyc_91 @zer_91)))))) (And.intro (And.intro (And.intro (And.intro (And.intro @tyc_92 @zer_92) (And.intro @tyc_93 (And.intro @zer_93 @zds_93))) (And.intro (And.intro @fld_93_0 @fld_93_1) (And.intro @fld_93_2 (And.intro @stf_93 @arr_93)))) (And.intro (And.intro (And.intro @apf_93 @tyc_94) (And.intro @zer_94 (And.intro @zds_94 @fld_94_0))) (And.intro (And.intro @fld_94_1 @fld_94_2) (And.intro @stf_94 (And.intro @arr_94 @apf_94))))) (And.intro (And.intro (And.intro (And.intro @tyc_95 @zer_95) (And.intro @tyc_96 (And.intro @zer_96 @tyc_97))) (And.intro (And.intro @zer_97 @zds_97) (And.intro @apf_97 (And.intro @tyc_99 @zer_99)))) (And.intro (And.intro (And.intro @tyc_100 @zer_100) (And.intro @tyc_101 (And.intro @zer_101 @tyc_102))) (And.intro (And.intro @zer_102 @zds_102) (And.intro @apf_102 (And.intro @tyc_103 @zer_103))))))) (And.intro (And.intro (And.intro (And.intro (And.intro (And.intro @zds_103 @fld_103_0) (And.intro @fld_103_1 (And.intro @stf_103 @arr_103))) (And.intro (And.intro @apf_103 @tyc_104) (And.intro @zer_104 (And.intro @zds_104 @fld_104_0)))) (And.intro (And.intro (And.intro @fld_104_1 @stf_104) (And.intro @arr_104 (And.intro @apf_104 @tyc_105))) (And.intro (And.intro @zer_105 @tyc_106) (And.intro @zer_106 (And.intro @tyc_107 @zer_107))))) (And.intro (And.intro (And.intro (And.intro @tyc_108 @zer_108) (And.intro @tyc_109 (And.intro @zer_109 @tyc_110))) (And.intro (And.intro @zer_110 @zds_110) (And.intro @mpt_110 (And.intro @apf_110 @tyc_111)))) (And.intro (And.intro (And.intro @zer_111 @zds_111) (And.intro @mpt_111 (And.intro @apf_111 @tyc_112))) (And.intro (And.intro @zer_112 @tyc_113) (And.intro @zer_113 (And.intro @zds_113 @arr_113)))))) (And.intro (And.intro (And.intro (And.intro (And.intro @stf_113 @apf_113) (And.intro @tyc_114 (And.intro @zer_114 @tyc_116))) (And.intro (And.intro @zer_116 @tyc_117) (And.intro @zer_117 (And.intro @zds_117 @arr_117)))) (And.intro (And.intro (And.intro @stf_117 @apf_117) (And.intro @tyc_118 (And.intro @zer_118 @zds_118))) (And.intro (And.intro @fld_118_0 @stf_118) (And.intro @arr_118 (And.intro @apf_118 @tyc_119))))) (And.intro (And.intro (And.intro (And.intro @zer_119 @zds_119) (And.intro @fld_119_0 (And.intro @stf_119 @arr_119))) (And.intro (And.intro @apf_119 @tyc_121) (And.intro @zer_121 (And.intro @tyc_122 @zer_122)))) (And.intro (And.intro (And.intro @tyc_123 @zer_123) (And.intro @tyc_125 (And.intro @zer_125 @tyc_126))) (And.intro (And.intro @zer_126 (And.intro @tyc_127 @zer_127)) (And.intro @tyc_128 (And.intro @zer_128 @tyc_129)))))))) (And.intro (And.intro (And.intro (And.intro (And.intro (And.intro (And.intro @zer_129 @tyc_130) (And.intro @zer_130 (And.intro @tyc_131 @zer_131))) (And.intro (And.intro @zds_131 @apf_131) (And.intro @tyc_132 (And.intro @zer_132 @zds_132)))) (And.intro (And.intro (And.intro @elt_132 @apf_132) (And.intro @tyc_133 (And.intro @zer_133 @zds_133))) (And.intro (And.intro @arr_133 @stf_133) (And.intro @apf_133 (And.intro @tyc_134 @zer_134))))) (And.intro (And.intro (And.intro (And.intro @tyc_135 @zer_135) (And.intro @tyc_136 (And.intro @zer_136 @zds_136))) (And.intro (And.intro @fld_136_0 @stf_136) (And.intro @arr_136 (And.intro @apf_136 @tyc_137)))) (And.intro (And.intro (And.intro @zer_137 @zds_137) (And.intro @fld_137_0 (And.intro @stf_137 @arr_137))) (And.intro (And.intro @apf_137 @tyc_138) (And.intro @zer_138 (And.intro @tyc_139 @zer_139)))))) (And.intro (And.intro (And.intro (And.intro (And.intro @tyc_140 @zer_140) (And.intro @tyc_141 (And.intro @zer_141 @tyc_142))) (And.intro (And.intro @zer_142 @tyc_143) (And.intro @zer_143 (And.intro @tyc_144 @zer_144)))) (And.intro (And.intro (And.intro @tyc_145 @zer_145) (And.intro @tyc_146 (And.intro @arr_146 @stf_146))) (And.intro (And.intro @apf_146 @tyc_147) (And.intro @zer_147 (And.intro @tyc_148 @zer_148))))) (And.intro (And.intro (And.intro (And.intro @zds_148 @fld_148_0) (And.intro @fld_148_1 (And.intro @fld_148_2 @fld_148_3))) (And.intro (And.intro @stf_148 @arr_148) (And.intro @apf_148 (And.intro @tyc_149 @zer_149)))) (And.intro (And.intro (And.intro @zds_149 @fld_149_0) (And.intro @fld_149_1 (And.intro @fld_149_2 @fld_149_3))) (And.intro (And.intro @stf_149 @arr_149) (And.intro @apf_149 (And.intro @tyc_150 @zer_150))))))) (And.intro (And.intro (And.intro (And.intro (And.intro (And.intro @zds_150 @arr_150) (And.intro @stf_150 (And.intro @tyc_151 @zer_151))) (And.intro (And.intro @zds_151 @stf_151) (And.intro @arr_151 (And.intro @tyc_152 @zer_152)))) (And.intro (And.intro (And.intro @zds_152 @stf_152) (And.intro @arr_152 (And.intro @tyc_153 @zer_153))) (And.intro (And.intro @tyc_154 @zer_154) (And.intro @zds_154 (And.intro @und_154 @apf_154))))) (And.intro (And.intro (And.intro (And.intro @tyc_155 @zer_155) (And.intro @zds_155 (And.intro @und_155 @apf_155))) (And.intro (And.intro @tyc_156 @zer_156) (And.intro @zds_156 (And.intro @und_156 @apf_156)))) (And.intro (And.intro (And.intro @tyc_157 @zer_157) (And.intro @tyc_158 (And.intro @zer_158 @zds_158))) (And.intro (And.intro @apf_158 @tyc_159) (And.intro @zer_159 (And.intro @zds_159 @und_159)))))) (And.intro (And.intro (And.intro (And.intro (And.intro @apf_159 @tyc_160) (And.intro @zer_160 (And.intro @zds_160 @und_160))) (And.intro (And.intro @apf_160 @tyc_161) (And.intro @zer_161 (And.intro @zds_161 @fld_161_0)))) (And.intro (And.intro (And.intro @fld_161_1 @fld_161_2) (And.intro @fld_161_3 (And.intro @fld_161_4 @fld_161_5))) (And.intro (And.intro @fld_161_6 @fld_161_7) (And.intro @fld_161_8 (And.intro @fld_161_9 @fld_161_10))))) (And.intro (And.intro (And.intro (And.intro @stf_161 @arr_161) (And.intro @apf_161 (And.intro @tyc_162 @zer_162))) (And.intro (And.intro @zds_162 @fld_162_0) (And.intro @fld_162_1 (And.intro @fld_162_2 @fld_162_3)))) (And.intro (And.intro (And.intro @fld_162_4 @fld_162_5) (And.intro @fld_162_6 (And.intro @fld_162_7 @fld_162_8))) (And.intro (And.intro @fld_162_9 (And.intro @fld_162_10 @stf_162)) (And.intro @arr_162 (And.intro @apf_162 @zro_4))))))))))
theorem fA : type_of% fA0 := fA0
end Go.Proofs.Ytmjnlcfnaoloeaa.Ab
