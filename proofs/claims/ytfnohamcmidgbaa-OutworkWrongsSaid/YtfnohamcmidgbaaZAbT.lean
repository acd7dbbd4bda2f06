/- Facts of the seat: its types and its functions, by number. -/
import Derived.Test.YtfnohamcmidgbaaZAbV
import Derived.Test.YtfnohamcmidgbaaProg
import Derived.KernelRfl
namespace Go.Proofs.Ytfnohamcmidgbaa.Ab
open Go Go.RowKit
set_option linter.defProp false
theorem tyc_1 : tyc Try.prog 1 = some (false, 1) := by kernel_rfl
theorem zer_1 : zer Try.prog 1 = some [Go.Value.nilFunc] := by kernel_rfl
theorem tyc_2 : tyc Try.prog 2 = some (false, 1) := by kernel_rfl
theorem zer_2 : zer Try.prog 2 = some [Go.Value.int Go.IntKind.i64 0] := by kernel_rfl
theorem zds_2 : zds Try.prog 2 = some [.v (Go.Value.int Go.IntKind.i64 0)] := by kernel_rfl
theorem und_2 : Try.prog.underlying 2 = some (.int .i64) := by kernel_rfl
theorem apf_2 : apf Try.prog 2 = some (1, 8) := by kernel_rfl
theorem tyc_3 : tyc Try.prog 3 = some (false, 1) := by kernel_rfl
theorem zer_3 : zer Try.prog 3 = some [Go.Value.int Go.IntKind.i64 0] := by kernel_rfl
theorem zds_3 : zds Try.prog 3 = some [.v (Go.Value.int Go.IntKind.i64 0)] := by kernel_rfl
theorem und_3 : Try.prog.underlying 3 = some (.int .i64) := by kernel_rfl
theorem apf_3 : apf Try.prog 3 = some (1, 8) := by kernel_rfl
theorem tyc_4 : tyc Try.prog 4 = some (false, 1) := by kernel_rfl
theorem zer_4 : zer Try.prog 4 = some [Go.Value.bool false] := by kernel_rfl
theorem zds_4 : zds Try.prog 4 = some [.v (Go.Value.bool false)] := by kernel_rfl
theorem und_4 : Try.prog.underlying 4 = some .bool := by kernel_rfl
theorem apf_4 : apf Try.prog 4 = some (1, 1) := by kernel_rfl
theorem tyc_5 : tyc Try.prog 5 = some (false, 1) := by kernel_rfl
theorem zer_5 : zer Try.prog 5 = some [Go.Value.int Go.IntKind.u8 0] := by kernel_rfl
theorem zds_5 : zds Try.prog 5 = some [.v (Go.Value.int Go.IntKind.u8 0)] := by kernel_rfl
theorem und_5 : Try.prog.underlying 5 = some (.int .u8) := by kernel_rfl
theorem apf_5 : apf Try.prog 5 = some (1, 1) := by kernel_rfl
theorem tyc_6 : tyc Try.prog 6 = some (false, 1) := by kernel_rfl
theorem zer_6 : zer Try.prog 6 = some [Go.Value.int Go.IntKind.u8 0] := by kernel_rfl
theorem zds_6 : zds Try.prog 6 = some [.v (Go.Value.int Go.IntKind.u8 0)] := by kernel_rfl
theorem und_6 : Try.prog.underlying 6 = some (.int .u8) := by kernel_rfl
theorem apf_6 : apf Try.prog 6 = some (1, 1) := by kernel_rfl
theorem tyc_7 : tyc Try.prog 7 = some (true, 4) := by kernel_rfl
theorem zer_7 : zer Try.prog 7 = some [Go.Value.int Go.IntKind.i64 0, Go.Value.int Go.IntKind.i64 0, Go.Value.bool false, Go.Value.int Go.IntKind.u8 0] := by kernel_rfl
theorem zds_7 : zds Try.prog 7 = some [.v (Go.Value.int Go.IntKind.i64 0), .v (Go.Value.int Go.IntKind.i64 0), .v (Go.Value.bool false), .v (Go.Value.int Go.IntKind.u8 0)] := by kernel_rfl
theorem fld_7_0 : fld Try.prog 7 0 = some (0, 2) := by kernel_rfl
theorem fld_7_1 : fld Try.prog 7 1 = some (1, 3) := by kernel_rfl
theorem fld_7_2 : fld Try.prog 7 2 = some (2, 4) := by kernel_rfl
theorem fld_7_3 : fld Try.prog 7 3 = some (3, 6) := by kernel_rfl
theorem stf_7 : stf Try.prog 7 = some [(0, 1), (1, 1), (2, 1), (3, 1)] := by kernel_rfl
theorem arr_7 : arr Try.prog 7 = none := by kernel_rfl
theorem apf_7 : apf Try.prog 7 = some (4, 24) := by kernel_rfl
theorem tyc_8 : tyc Try.prog 8 = some (true, 4) := by kernel_rfl
theorem zer_8 : zer Try.prog 8 = some [Go.Value.int Go.IntKind.i64 0, Go.Value.int Go.IntKind.i64 0, Go.Value.bool false, Go.Value.int Go.IntKind.u8 0] := by kernel_rfl
theorem zds_8 : zds Try.prog 8 = some [.v (Go.Value.int Go.IntKind.i64 0), .v (Go.Value.int Go.IntKind.i64 0), .v (Go.Value.bool false), .v (Go.Value.int Go.IntKind.u8 0)] := by kernel_rfl
theorem fld_8_0 : fld Try.prog 8 0 = some (0, 2) := by kernel_rfl
theorem fld_8_1 : fld Try.prog 8 1 = some (1, 3) := by kernel_rfl
theorem fld_8_2 : fld Try.prog 8 2 = some (2, 4) := by kernel_rfl
theorem fld_8_3 : fld Try.prog 8 3 = some (3, 6) := by kernel_rfl
theorem stf_8 : stf Try.prog 8 = some [(0, 1), (1, 1), (2, 1), (3, 1)] := by kernel_rfl
theorem arr_8 : arr Try.prog 8 = none := by kernel_rfl
theorem apf_8 : apf Try.prog 8 = some (4, 24) := by kernel_rfl
theorem tyc_9 : tyc Try.prog 9 = some (false, 1) := by kernel_rfl
theorem zer_9 : zer Try.prog 9 = some [Go.Value.string { data := #[] }] := by kernel_rfl
theorem zds_9 : zds Try.prog 9 = some [.v (Go.Value.string { data := #[] })] := by kernel_rfl
theorem apf_9 : apf Try.prog 9 = some (1, 16) := by kernel_rfl
theorem tyc_10 : tyc Try.prog 10 = some (false, 1) := by kernel_rfl
theorem zer_10 : zer Try.prog 10 = some [Go.Value.string { data := #[] }] := by kernel_rfl
theorem zds_10 : zds Try.prog 10 = some [.v (Go.Value.string { data := #[] })] := by kernel_rfl
theorem apf_10 : apf Try.prog 10 = some (1, 16) := by kernel_rfl
theorem tyc_11 : tyc Try.prog 11 = some (false, 1) := by kernel_rfl
theorem zer_11 : zer Try.prog 11 = some [Go.Value.string { data := #[] }] := by kernel_rfl
theorem zds_11 : zds Try.prog 11 = some [.v (Go.Value.string { data := #[] })] := by kernel_rfl
theorem apf_11 : apf Try.prog 11 = some (1, 16) := by kernel_rfl
theorem tyc_12 : tyc Try.prog 12 = some (false, 1) := by kernel_rfl
theorem zer_12 : zer Try.prog 12 = some [Go.Value.int Go.IntKind.u64 0] := by kernel_rfl
theorem zds_12 : zds Try.prog 12 = some [.v (Go.Value.int Go.IntKind.u64 0)] := by kernel_rfl
theorem und_12 : Try.prog.underlying 12 = some (.int .u64) := by kernel_rfl
theorem apf_12 : apf Try.prog 12 = some (1, 8) := by kernel_rfl
theorem tyc_13 : tyc Try.prog 13 = some (true, 2) := by kernel_rfl
theorem zer_13 : zer Try.prog 13 = some [Go.Value.string { data := #[] }, Go.Value.int Go.IntKind.u64 0] := by kernel_rfl
theorem zds_13 : zds Try.prog 13 = some [.v (Go.Value.string { data := #[] }), .v (Go.Value.int Go.IntKind.u64 0)] := by kernel_rfl
theorem fld_13_0 : fld Try.prog 13 0 = some (0, 9) := by kernel_rfl
theorem fld_13_1 : fld Try.prog 13 1 = some (1, 12) := by kernel_rfl
theorem stf_13 : stf Try.prog 13 = some [(0, 1), (1, 1)] := by kernel_rfl
theorem arr_13 : arr Try.prog 13 = none := by kernel_rfl
theorem apf_13 : apf Try.prog 13 = some (2, 24) := by kernel_rfl
theorem tyc_14 : tyc Try.prog 14 = some (true, 2) := by kernel_rfl
theorem zer_14 : zer Try.prog 14 = some [Go.Value.string { data := #[] }, Go.Value.int Go.IntKind.u64 0] := by kernel_rfl
theorem zds_14 : zds Try.prog 14 = some [.v (Go.Value.string { data := #[] }), .v (Go.Value.int Go.IntKind.u64 0)] := by kernel_rfl
theorem fld_14_0 : fld Try.prog 14 0 = some (0, 9) := by kernel_rfl
theorem fld_14_1 : fld Try.prog 14 1 = some (1, 12) := by kernel_rfl
theorem stf_14 : stf Try.prog 14 = some [(0, 1), (1, 1)] := by kernel_rfl
theorem arr_14 : arr Try.prog 14 = none := by kernel_rfl
theorem apf_14 : apf Try.prog 14 = some (2, 24) := by kernel_rfl
theorem tyc_15 : tyc Try.prog 15 = some (false, 1) := by kernel_rfl
theorem zer_15 : zer Try.prog 15 = some [Go.Value.pointer none] := by kernel_rfl
theorem zds_15 : zds Try.prog 15 = some [.v (Go.Value.pointer none)] := by kernel_rfl
theorem apf_15 : apf Try.prog 15 = some (1, 8) := by kernel_rfl
theorem tyc_16 : tyc Try.prog 16 = some (false, 1) := by kernel_rfl
theorem zer_16 : zer Try.prog 16 = some [Go.Value.pointer none] := by kernel_rfl
theorem zds_16 : zds Try.prog 16 = some [.v (Go.Value.pointer none)] := by kernel_rfl
theorem apf_16 : apf Try.prog 16 = some (1, 8) := by kernel_rfl
theorem tyc_17 : tyc Try.prog 17 = some (false, 1) := by kernel_rfl
theorem zer_17 : zer Try.prog 17 = some [Go.Value.pointer none] := by kernel_rfl
theorem zds_17 : zds Try.prog 17 = some [.v (Go.Value.pointer none)] := by kernel_rfl
theorem apf_17 : apf Try.prog 17 = some (1, 8) := by kernel_rfl
theorem tyc_18 : tyc Try.prog 18 = some (true, 1) := by kernel_rfl
theorem zer_18 : zer Try.prog 18 = some [Go.Value.pointer none] := by kernel_rfl
theorem zds_18 : zds Try.prog 18 = some [.v (Go.Value.pointer none)] := by kernel_rfl
theorem fld_18_0 : fld Try.prog 18 0 = some (0, 17) := by kernel_rfl
theorem stf_18 : stf Try.prog 18 = some [(0, 1)] := by kernel_rfl
theorem arr_18 : arr Try.prog 18 = none := by kernel_rfl
theorem apf_18 : apf Try.prog 18 = some (1, 8) := by kernel_rfl
theorem tyc_19 : tyc Try.prog 19 = some (true, 1) := by kernel_rfl
theorem zer_19 : zer Try.prog 19 = some [Go.Value.pointer none] := by kernel_rfl
theorem zds_19 : zds Try.prog 19 = some [.v (Go.Value.pointer none)] := by kernel_rfl
theorem fld_19_0 : fld Try.prog 19 0 = some (0, 17) := by kernel_rfl
theorem stf_19 : stf Try.prog 19 = some [(0, 1)] := by kernel_rfl
theorem arr_19 : arr Try.prog 19 = none := by kernel_rfl
theorem apf_19 : apf Try.prog 19 = some (1, 8) := by kernel_rfl
theorem tyc_21 : tyc Try.prog 21 = some (false, 1) := by kernel_rfl
theorem zer_21 : zer Try.prog 21 = some [Go.Value.int Go.IntKind.i32 0] := by kernel_rfl
theorem zds_21 : zds Try.prog 21 = some [.v (Go.Value.int Go.IntKind.i32 0)] := by kernel_rfl
theorem und_21 : Try.prog.underlying 21 = some (.int .i32) := by kernel_rfl
theorem apf_21 : apf Try.prog 21 = some (1, 4) := by kernel_rfl
theorem tyc_22 : tyc Try.prog 22 = some (false, 1) := by kernel_rfl
theorem zer_22 : zer Try.prog 22 = some [Go.Value.slice none 0 0] := by kernel_rfl
theorem zds_22 : zds Try.prog 22 = some [.sl 2 []] := by kernel_rfl
theorem elt_22 : elt Try.prog 22 = some (60, 2) := by kernel_rfl
theorem apf_22 : apf Try.prog 22 = some (1, 24) := by kernel_rfl
theorem tyc_23 : tyc Try.prog 23 = some (false, 1) := by kernel_rfl
theorem zer_23 : zer Try.prog 23 = some [Go.Value.slice none 0 0] := by kernel_rfl
theorem zds_23 : zds Try.prog 23 = some [.sl 1 []] := by kernel_rfl
theorem elt_23 : elt Try.prog 23 = some (3, 1) := by kernel_rfl
theorem apf_23 : apf Try.prog 23 = some (1, 24) := by kernel_rfl
theorem tyc_24 : tyc Try.prog 24 = some (true, 3) := by kernel_rfl
theorem zer_24 : zer Try.prog 24 = some [Go.Value.int Go.IntKind.i64 0, Go.Value.slice none 0 0, Go.Value.slice none 0 0] := by kernel_rfl
theorem zds_24 : zds Try.prog 24 = some [.v (Go.Value.int Go.IntKind.i64 0), .v (Go.Value.slice none 0 0), .v (Go.Value.slice none 0 0)] := by kernel_rfl
theorem fld_24_0 : fld Try.prog 24 0 = some (0, 3) := by kernel_rfl
theorem fld_24_1 : fld Try.prog 24 1 = some (1, 22) := by kernel_rfl
theorem fld_24_2 : fld Try.prog 24 2 = some (2, 23) := by kernel_rfl
theorem stf_24 : stf Try.prog 24 = some [(0, 1), (1, 1), (2, 1)] := by kernel_rfl
theorem arr_24 : arr Try.prog 24 = none := by kernel_rfl
theorem apf_24 : apf Try.prog 24 = some (3, 56) := by kernel_rfl
theorem tyc_25 : tyc Try.prog 25 = some (true, 3) := by kernel_rfl
theorem zer_25 : zer Try.prog 25 = some [Go.Value.int Go.IntKind.i64 0, Go.Value.slice none 0 0, Go.Value.slice none 0 0] := by kernel_rfl
theorem zds_25 : zds Try.prog 25 = some [.v (Go.Value.int Go.IntKind.i64 0), .v (Go.Value.slice none 0 0), .v (Go.Value.slice none 0 0)] := by kernel_rfl
theorem fld_25_0 : fld Try.prog 25 0 = some (0, 3) := by kernel_rfl
theorem fld_25_1 : fld Try.prog 25 1 = some (1, 22) := by kernel_rfl
theorem fld_25_2 : fld Try.prog 25 2 = some (2, 23) := by kernel_rfl
theorem stf_25 : stf Try.prog 25 = some [(0, 1), (1, 1), (2, 1)] := by kernel_rfl
theorem arr_25 : arr Try.prog 25 = none := by kernel_rfl
theorem apf_25 : apf Try.prog 25 = some (3, 56) := by kernel_rfl
theorem tyc_26 : tyc Try.prog 26 = some (false, 1) := by kernel_rfl
theorem zer_26 : zer Try.prog 26 = some [Go.Value.slice none 0 0] := by kernel_rfl
theorem zds_26 : zds Try.prog 26 = some [.sl 4 []] := by kernel_rfl
theorem elt_26 : elt Try.prog 26 = some (74, 4) := by kernel_rfl
theorem apf_26 : apf Try.prog 26 = some (1, 24) := by kernel_rfl
theorem tyc_27 : tyc Try.prog 27 = some (false, 1) := by kernel_rfl
theorem zer_27 : zer Try.prog 27 = some [Go.Value.nilFunc] := by kernel_rfl
theorem tyc_28 : tyc Try.prog 28 = some (false, 1) := by kernel_rfl
theorem zer_28 : zer Try.prog 28 = some [Go.Value.nilFunc] := by kernel_rfl
theorem tyc_29 : tyc Try.prog 29 = some (false, 1) := by kernel_rfl
theorem zer_29 : zer Try.prog 29 = some [Go.Value.nilFunc] := by kernel_rfl
theorem tyc_30 : tyc Try.prog 30 = some (false, 1) := by kernel_rfl
theorem zer_30 : zer Try.prog 30 = some [Go.Value.nilFunc] := by kernel_rfl
theorem tyc_31 : tyc Try.prog 31 = some (false, 1) := by kernel_rfl
theorem zer_31 : zer Try.prog 31 = some [Go.Value.int Go.IntKind.i64 0] := by kernel_rfl
theorem zds_31 : zds Try.prog 31 = some [.v (Go.Value.int Go.IntKind.i64 0)] := by kernel_rfl
theorem und_31 : Try.prog.underlying 31 = some (.int .i64) := by kernel_rfl
theorem apf_31 : apf Try.prog 31 = some (1, 8) := by kernel_rfl
theorem tyc_32 : tyc Try.prog 32 = some (false, 1) := by kernel_rfl
theorem zer_32 : zer Try.prog 32 = some [Go.Value.nilFunc] := by kernel_rfl
theorem tyc_34 : tyc Try.prog 34 = some (false, 1) := by kernel_rfl
theorem zer_34 : zer Try.prog 34 = some [Go.Value.nilFunc] := by kernel_rfl
theorem tyc_35 : tyc Try.prog 35 = some (false, 1) := by kernel_rfl
theorem zer_35 : zer Try.prog 35 = some [Go.Value.nilFunc] := by kernel_rfl
theorem tyc_36 : tyc Try.prog 36 = some (false, 1) := by kernel_rfl
theorem zer_36 : zer Try.prog 36 = some [Go.Value.nilFunc] := by kernel_rfl
theorem tyc_37 : tyc Try.prog 37 = some (false, 1) := by kernel_rfl
theorem zer_37 : zer Try.prog 37 = some [Go.Value.nilFunc] := by kernel_rfl
theorem tyc_38 : tyc Try.prog 38 = some (false, 1) := by kernel_rfl
theorem zer_38 : zer Try.prog 38 = some [Go.Value.nilFunc] := by kernel_rfl
theorem tyc_39 : tyc Try.prog 39 = some (false, 1) := by kernel_rfl
theorem zer_39 : zer Try.prog 39 = some [Go.Value.nilFunc] := by kernel_rfl
theorem tyc_40 : tyc Try.prog 40 = some (false, 1) := by kernel_rfl
theorem zer_40 : zer Try.prog 40 = some [Go.Value.nilFunc] := by kernel_rfl
theorem tyc_42 : tyc Try.prog 42 = some (false, 1) := by kernel_rfl
theorem zer_42 : zer Try.prog 42 = some [Go.Value.nilFunc] := by kernel_rfl
theorem tyc_43 : tyc Try.prog 43 = some (false, 1) := by kernel_rfl
theorem zer_43 : zer Try.prog 43 = some [Go.Value.nilFunc] := by kernel_rfl
theorem tyc_45 : tyc Try.prog 45 = some (false, 1) := by kernel_rfl
theorem zer_45 : zer Try.prog 45 = some [Go.Value.nilFunc] := by kernel_rfl
theorem tyc_46 : tyc Try.prog 46 = some (false, 1) := by kernel_rfl
theorem zer_46 : zer Try.prog 46 = some [Go.Value.nilFunc] := by kernel_rfl
theorem tyc_48 : tyc Try.prog 48 = some (false, 1) := by kernel_rfl
theorem zer_48 : zer Try.prog 48 = some [Go.Value.nilFunc] := by kernel_rfl
theorem tyc_50 : tyc Try.prog 50 = some (false, 1) := by kernel_rfl
theorem zer_50 : zer Try.prog 50 = some [Go.Value.nilFunc] := by kernel_rfl
theorem tyc_52 : tyc Try.prog 52 = some (false, 1) := by kernel_rfl
theorem zer_52 : zer Try.prog 52 = some [Go.Value.nilFunc] := by kernel_rfl
theorem tyc_53 : tyc Try.prog 53 = some (false, 1) := by kernel_rfl
theorem zer_53 : zer Try.prog 53 = some [Go.Value.nilFunc] := by kernel_rfl
theorem tyc_54 : tyc Try.prog 54 = some (false, 1) := by kernel_rfl
theorem zer_54 : zer Try.prog 54 = some [Go.Value.nilFunc] := by kernel_rfl
theorem tyc_55 : tyc Try.prog 55 = some (false, 1) := by kernel_rfl
theorem zer_55 : zer Try.prog 55 = some [Go.Value.nilFunc] := by kernel_rfl
theorem tyc_56 : tyc Try.prog 56 = some (false, 1) := by kernel_rfl
theorem zer_56 : zer Try.prog 56 = some [Go.Value.nilFunc] := by kernel_rfl
theorem tyc_57 : tyc Try.prog 57 = some (false, 1) := by kernel_rfl
theorem zer_57 : zer Try.prog 57 = some [Go.Value.nilFunc] := by kernel_rfl
theorem tyc_58 : tyc Try.prog 58 = some (false, 1) := by kernel_rfl
theorem zer_58 : zer Try.prog 58 = some [Go.Value.nilFunc] := by kernel_rfl
theorem tyc_59 : tyc Try.prog 59 = some (true, 2) := by kernel_rfl
theorem zer_59 : zer Try.prog 59 = some [Go.Value.int Go.IntKind.i64 0, Go.Value.int Go.IntKind.i64 0] := by kernel_rfl
theorem zds_59 : zds Try.prog 59 = some [.v (Go.Value.int Go.IntKind.i64 0), .v (Go.Value.int Go.IntKind.i64 0)] := by kernel_rfl
theorem fld_59_0 : fld Try.prog 59 0 = some (0, 3) := by kernel_rfl
theorem fld_59_1 : fld Try.prog 59 1 = some (1, 3) := by kernel_rfl
theorem stf_59 : stf Try.prog 59 = some [(0, 1), (1, 1)] := by kernel_rfl
theorem arr_59 : arr Try.prog 59 = none := by kernel_rfl
theorem apf_59 : apf Try.prog 59 = some (2, 16) := by kernel_rfl
theorem tyc_60 : tyc Try.prog 60 = some (true, 2) := by kernel_rfl
theorem zer_60 : zer Try.prog 60 = some [Go.Value.int Go.IntKind.i64 0, Go.Value.int Go.IntKind.i64 0] := by kernel_rfl
theorem zds_60 : zds Try.prog 60 = some [.v (Go.Value.int Go.IntKind.i64 0), .v (Go.Value.int Go.IntKind.i64 0)] := by kernel_rfl
theorem fld_60_0 : fld Try.prog 60 0 = some (0, 3) := by kernel_rfl
theorem fld_60_1 : fld Try.prog 60 1 = some (1, 3) := by kernel_rfl
theorem stf_60 : stf Try.prog 60 = some [(0, 1), (1, 1)] := by kernel_rfl
theorem arr_60 : arr Try.prog 60 = none := by kernel_rfl
theorem apf_60 : apf Try.prog 60 = some (2, 16) := by kernel_rfl
theorem tyc_61 : tyc Try.prog 61 = some (false, 1) := by kernel_rfl
theorem zer_61 : zer Try.prog 61 = some [Go.Value.nilFunc] := by kernel_rfl
theorem tyc_62 : tyc Try.prog 62 = some (false, 1) := by kernel_rfl
theorem zer_62 : zer Try.prog 62 = some [Go.Value.nilFunc] := by kernel_rfl
theorem tyc_63 : tyc Try.prog 63 = some (false, 1) := by kernel_rfl
theorem zer_63 : zer Try.prog 63 = some [Go.Value.nilFunc] := by kernel_rfl
theorem tyc_64 : tyc Try.prog 64 = some (false, 1) := by kernel_rfl
theorem zer_64 : zer Try.prog 64 = some [Go.Value.nilFunc] := by kernel_rfl
theorem tyc_66 : tyc Try.prog 66 = some (false, 1) := by kernel_rfl
theorem zer_66 : zer Try.prog 66 = some [Go.Value.nilFunc] := by kernel_rfl
theorem tyc_68 : tyc Try.prog 68 = some (false, 1) := by kernel_rfl
theorem zer_68 : zer Try.prog 68 = some [Go.Value.nilFunc] := by kernel_rfl
theorem tyc_69 : tyc Try.prog 69 = some (false, 1) := by kernel_rfl
theorem zer_69 : zer Try.prog 69 = some [Go.Value.nilFunc] := by kernel_rfl
theorem tyc_70 : tyc Try.prog 70 = some (false, 1) := by kernel_rfl
theorem zer_70 : zer Try.prog 70 = some [Go.Value.nilFunc] := by kernel_rfl
theorem tyc_71 : tyc Try.prog 71 = some (false, 1) := by kernel_rfl
theorem zer_71 : zer Try.prog 71 = some [Go.Value.nilFunc] := by kernel_rfl
theorem tyc_72 : tyc Try.prog 72 = some (false, 1) := by kernel_rfl
theorem zer_72 : zer Try.prog 72 = some [Go.Value.int Go.IntKind.i64 0] := by kernel_rfl
theorem zds_72 : zds Try.prog 72 = some [.v (Go.Value.int Go.IntKind.i64 0)] := by kernel_rfl
theorem und_72 : Try.prog.underlying 72 = some (.int .i64) := by kernel_rfl
theorem apf_72 : apf Try.prog 72 = some (1, 8) := by kernel_rfl
theorem tyc_73 : tyc Try.prog 73 = some (true, 4) := by kernel_rfl
theorem zer_73 : zer Try.prog 73 = some [Go.Value.int Go.IntKind.i64 0, Go.Value.int Go.IntKind.i64 0, Go.Value.int Go.IntKind.i64 0, Go.Value.int Go.IntKind.i64 0] := by kernel_rfl
theorem zds_73 : zds Try.prog 73 = some [.v (Go.Value.int Go.IntKind.i64 0), .v (Go.Value.int Go.IntKind.i64 0), .v (Go.Value.int Go.IntKind.i64 0), .v (Go.Value.int Go.IntKind.i64 0)] := by kernel_rfl
theorem fld_73_0 : fld Try.prog 73 0 = some (0, 3) := by kernel_rfl
theorem fld_73_1 : fld Try.prog 73 1 = some (1, 72) := by kernel_rfl
theorem fld_73_2 : fld Try.prog 73 2 = some (2, 3) := by kernel_rfl
theorem fld_73_3 : fld Try.prog 73 3 = some (3, 3) := by kernel_rfl
theorem stf_73 : stf Try.prog 73 = some [(0, 1), (1, 1), (2, 1), (3, 1)] := by kernel_rfl
theorem arr_73 : arr Try.prog 73 = none := by kernel_rfl
theorem apf_73 : apf Try.prog 73 = some (4, 32) := by kernel_rfl
theorem tyc_74 : tyc Try.prog 74 = some (true, 4) := by kernel_rfl
theorem zer_74 : zer Try.prog 74 = some [Go.Value.int Go.IntKind.i64 0, Go.Value.int Go.IntKind.i64 0, Go.Value.int Go.IntKind.i64 0, Go.Value.int Go.IntKind.i64 0] := by kernel_rfl
theorem zds_74 : zds Try.prog 74 = some [.v (Go.Value.int Go.IntKind.i64 0), .v (Go.Value.int Go.IntKind.i64 0), .v (Go.Value.int Go.IntKind.i64 0), .v (Go.Value.int Go.IntKind.i64 0)] := by kernel_rfl
theorem fld_74_0 : fld Try.prog 74 0 = some (0, 3) := by kernel_rfl
theorem fld_74_1 : fld Try.prog 74 1 = some (1, 72) := by kernel_rfl
theorem fld_74_2 : fld Try.prog 74 2 = some (2, 3) := by kernel_rfl
theorem fld_74_3 : fld Try.prog 74 3 = some (3, 3) := by kernel_rfl
theorem stf_74 : stf Try.prog 74 = some [(0, 1), (1, 1), (2, 1), (3, 1)] := by kernel_rfl
theorem arr_74 : arr Try.prog 74 = none := by kernel_rfl
theorem apf_74 : apf Try.prog 74 = some (4, 32) := by kernel_rfl
theorem tyc_75 : tyc Try.prog 75 = some (false, 1) := by kernel_rfl
theorem zer_75 : zer Try.prog 75 = some [Go.Value.nilFunc] := by kernel_rfl
theorem tyc_76 : tyc Try.prog 76 = some (false, 1) := by kernel_rfl
theorem zer_76 : zer Try.prog 76 = some [Go.Value.nilFunc] := by kernel_rfl
theorem tyc_77 : tyc Try.prog 77 = some (false, 1) := by kernel_rfl
theorem zer_77 : zer Try.prog 77 = some [Go.Value.nilFunc] := by kernel_rfl
theorem tyc_78 : tyc Try.prog 78 = some (true, 2) := by kernel_rfl
theorem zer_78 : zer Try.prog 78 = some [Go.Value.bool false, Go.Value.int Go.IntKind.i64 0] := by kernel_rfl
theorem zds_78 : zds Try.prog 78 = some [.v (Go.Value.bool false), .v (Go.Value.int Go.IntKind.i64 0)] := by kernel_rfl
theorem fld_78_0 : fld Try.prog 78 0 = some (0, 4) := by kernel_rfl
theorem fld_78_1 : fld Try.prog 78 1 = some (1, 31) := by kernel_rfl
theorem stf_78 : stf Try.prog 78 = some [(0, 1), (1, 1)] := by kernel_rfl
theorem arr_78 : arr Try.prog 78 = none := by kernel_rfl
theorem apf_78 : apf Try.prog 78 = some (2, 16) := by kernel_rfl
theorem tyc_79 : tyc Try.prog 79 = some (false, 1) := by kernel_rfl
theorem zer_79 : zer Try.prog 79 = some [Go.Value.nilFunc] := by kernel_rfl
theorem tyc_80 : tyc Try.prog 80 = some (false, 1) := by kernel_rfl
theorem zer_80 : zer Try.prog 80 = some [Go.Value.nilFunc] := by kernel_rfl
theorem tyc_81 : tyc Try.prog 81 = some (false, 1) := by kernel_rfl
theorem zer_81 : zer Try.prog 81 = some [Go.Value.nilFunc] := by kernel_rfl
theorem tyc_82 : tyc Try.prog 82 = some (false, 1) := by kernel_rfl
theorem zer_82 : zer Try.prog 82 = some [Go.Value.nilFunc] := by kernel_rfl
theorem tyc_83 : tyc Try.prog 83 = some (false, 1) := by kernel_rfl
theorem zer_83 : zer Try.prog 83 = some [Go.Value.nilFunc] := by kernel_rfl
theorem tyc_84 : tyc Try.prog 84 = some (true, 12) := by kernel_rfl
theorem zer_84 : zer Try.prog 84 = some [Go.Value.bool false, Go.Value.int Go.IntKind.i64 0, Go.Value.bool false, Go.Value.int Go.IntKind.i64 0, Go.Value.bool false, Go.Value.int Go.IntKind.i64 0, Go.Value.bool false, Go.Value.int Go.IntKind.i64 0, Go.Value.bool false, Go.Value.int Go.IntKind.i64 0, Go.Value.bool false, Go.Value.int Go.IntKind.i64 0] := by kernel_rfl
theorem zds_84 : zds Try.prog 84 = some [.v (Go.Value.bool false), .v (Go.Value.int Go.IntKind.i64 0), .v (Go.Value.bool false), .v (Go.Value.int Go.IntKind.i64 0), .v (Go.Value.bool false), .v (Go.Value.int Go.IntKind.i64 0), .v (Go.Value.bool false), .v (Go.Value.int Go.IntKind.i64 0), .v (Go.Value.bool false), .v (Go.Value.int Go.IntKind.i64 0), .v (Go.Value.bool false), .v (Go.Value.int Go.IntKind.i64 0)] := by kernel_rfl
theorem arr_84 : arr Try.prog 84 = some (6, 78, 2) := by kernel_rfl
theorem stf_84 : stf Try.prog 84 = none := by kernel_rfl
theorem apf_84 : apf Try.prog 84 = some (12, 96) := by kernel_rfl
theorem tyc_85 : tyc Try.prog 85 = some (true, 4) := by kernel_rfl
theorem zer_85 : zer Try.prog 85 = some [Go.Value.int Go.IntKind.i64 0, Go.Value.slice none 0 0, Go.Value.slice none 0 0, Go.Value.slice none 0 0] := by kernel_rfl
theorem zds_85 : zds Try.prog 85 = some [.v (Go.Value.int Go.IntKind.i64 0), .v (Go.Value.slice none 0 0), .v (Go.Value.slice none 0 0), .v (Go.Value.slice none 0 0)] := by kernel_rfl
theorem fld_85_0 : fld Try.prog 85 0 = some (0, 25) := by kernel_rfl
theorem fld_85_1 : fld Try.prog 85 1 = some (3, 26) := by kernel_rfl
theorem stf_85 : stf Try.prog 85 = some [(0, 3), (3, 1)] := by kernel_rfl
theorem arr_85 : arr Try.prog 85 = none := by kernel_rfl
theorem apf_85 : apf Try.prog 85 = some (4, 80) := by kernel_rfl
theorem tyc_86 : tyc Try.prog 86 = some (true, 4) := by kernel_rfl
theorem zer_86 : zer Try.prog 86 = some [Go.Value.int Go.IntKind.i64 0, Go.Value.slice none 0 0, Go.Value.slice none 0 0, Go.Value.slice none 0 0] := by kernel_rfl
theorem zds_86 : zds Try.prog 86 = some [.v (Go.Value.int Go.IntKind.i64 0), .v (Go.Value.slice none 0 0), .v (Go.Value.slice none 0 0), .v (Go.Value.slice none 0 0)] := by kernel_rfl
theorem fld_86_0 : fld Try.prog 86 0 = some (0, 25) := by kernel_rfl
theorem fld_86_1 : fld Try.prog 86 1 = some (3, 26) := by kernel_rfl
theorem stf_86 : stf Try.prog 86 = some [(0, 3), (3, 1)] := by kernel_rfl
theorem arr_86 : arr Try.prog 86 = none := by kernel_rfl
theorem apf_86 : apf Try.prog 86 = some (4, 80) := by kernel_rfl
theorem tyc_88 : tyc Try.prog 88 = some (false, 1) := by kernel_rfl
theorem zer_88 : zer Try.prog 88 = some [Go.Value.nilFunc] := by kernel_rfl
theorem tyc_89 : tyc Try.prog 89 = some (false, 1) := by kernel_rfl
theorem zer_89 : zer Try.prog 89 = some [Go.Value.nilFunc] := by kernel_rfl
theorem tyc_90 : tyc Try.prog 90 = some (false, 1) := by kernel_rfl
theorem zer_90 : zer Try.prog 90 = some [Go.Value.nilFunc] := by kernel_rfl
theorem tyc_91 : tyc Try.prog 91 = some (true, 7) := by kernel_rfl
theorem zer_91 : zer Try.prog 91 = some [Go.Value.int Go.IntKind.i64 0, Go.Value.int Go.IntKind.i64 0, Go.Value.int Go.IntKind.i64 0, Go.Value.int Go.IntKind.i64 0, Go.Value.int Go.IntKind.i64 0, Go.Value.int Go.IntKind.i64 0, Go.Value.int Go.IntKind.i64 0] := by kernel_rfl
theorem zds_91 : zds Try.prog 91 = some [.v (Go.Value.int Go.IntKind.i64 0), .v (Go.Value.int Go.IntKind.i64 0), .v (Go.Value.int Go.IntKind.i64 0), .v (Go.Value.int Go.IntKind.i64 0), .v (Go.Value.int Go.IntKind.i64 0), .v (Go.Value.int Go.IntKind.i64 0), .v (Go.Value.int Go.IntKind.i64 0)] := by kernel_rfl
theorem fld_91_0 : fld Try.prog 91 0 = some (0, 60) := by kernel_rfl
theorem fld_91_1 : fld Try.prog 91 1 = some (2, 60) := by kernel_rfl
theorem fld_91_2 : fld Try.prog 91 2 = some (4, 60) := by kernel_rfl
theorem fld_91_3 : fld Try.prog 91 3 = some (6, 3) := by kernel_rfl
theorem stf_91 : stf Try.prog 91 = some [(0, 2), (2, 2), (4, 2), (6, 1)] := by kernel_rfl
theorem arr_91 : arr Try.prog 91 = none := by kernel_rfl
theorem apf_91 : apf Try.prog 91 = some (7, 56) := by kernel_rfl
theorem tyc_92 : tyc Try.prog 92 = some (true, 7) := by kernel_rfl
theorem zer_92 : zer Try.prog 92 = some [Go.Value.int Go.IntKind.i64 0, Go.Value.int Go.IntKind.i64 0, Go.Value.int Go.IntKind.i64 0, Go.Value.int Go.IntKind.i64 0, Go.Value.int Go.IntKind.i64 0, Go.Value.int Go.IntKind.i64 0, Go.Value.int Go.IntKind.i64 0] := by kernel_rfl
theorem zds_92 : zds Try.prog 92 = some [.v (Go.Value.int Go.IntKind.i64 0), .v (Go.Value.int Go.IntKind.i64 0), .v (Go.Value.int Go.IntKind.i64 0), .v (Go.Value.int Go.IntKind.i64 0), .v (Go.Value.int Go.IntKind.i64 0), .v (Go.Value.int Go.IntKind.i64 0), .v (Go.Value.int Go.IntKind.i64 0)] := by kernel_rfl
theorem fld_92_0 : fld Try.prog 92 0 = some (0, 60) := by kernel_rfl
theorem fld_92_1 : fld Try.prog 92 1 = some (2, 60) := by kernel_rfl
theorem fld_92_2 : fld Try.prog 92 2 = some (4, 60) := by kernel_rfl
theorem fld_92_3 : fld Try.prog 92 3 = some (6, 3) := by kernel_rfl
theorem stf_92 : stf Try.prog 92 = some [(0, 2), (2, 2), (4, 2), (6, 1)] := by kernel_rfl
theorem arr_92 : arr Try.prog 92 = none := by kernel_rfl
theorem apf_92 : apf Try.prog 92 = some (7, 56) := by kernel_rfl
theorem tyc_93 : tyc Try.prog 93 = some (false, 1) := by kernel_rfl
theorem zer_93 : zer Try.prog 93 = some [Go.Value.nilFunc] := by kernel_rfl
theorem tyc_94 : tyc Try.prog 94 = some (true, 7) := by kernel_rfl
theorem zer_94 : zer Try.prog 94 = some [Go.Value.int Go.IntKind.i64 0, Go.Value.int Go.IntKind.i64 0, Go.Value.int Go.IntKind.i64 0, Go.Value.int Go.IntKind.i64 0, Go.Value.int Go.IntKind.i64 0, Go.Value.int Go.IntKind.i64 0, Go.Value.bool false] := by kernel_rfl
theorem zds_94 : zds Try.prog 94 = some [.v (Go.Value.int Go.IntKind.i64 0), .v (Go.Value.int Go.IntKind.i64 0), .v (Go.Value.int Go.IntKind.i64 0), .v (Go.Value.int Go.IntKind.i64 0), .v (Go.Value.int Go.IntKind.i64 0), .v (Go.Value.int Go.IntKind.i64 0), .v (Go.Value.bool false)] := by kernel_rfl
theorem fld_94_0 : fld Try.prog 94 0 = some (0, 60) := by kernel_rfl
theorem fld_94_1 : fld Try.prog 94 1 = some (2, 60) := by kernel_rfl
theorem fld_94_2 : fld Try.prog 94 2 = some (4, 60) := by kernel_rfl
theorem fld_94_3 : fld Try.prog 94 3 = some (6, 4) := by kernel_rfl
theorem stf_94 : stf Try.prog 94 = some [(0, 2), (2, 2), (4, 2), (6, 1)] := by kernel_rfl
theorem arr_94 : arr Try.prog 94 = none := by kernel_rfl
theorem apf_94 : apf Try.prog 94 = some (7, 56) := by kernel_rfl
theorem tyc_95 : tyc Try.prog 95 = some (true, 7) := by kernel_rfl
theorem zer_95 : zer Try.prog 95 = some [Go.Value.int Go.IntKind.i64 0, Go.Value.int Go.IntKind.i64 0, Go.Value.int Go.IntKind.i64 0, Go.Value.int Go.IntKind.i64 0, Go.Value.int Go.IntKind.i64 0, Go.Value.int Go.IntKind.i64 0, Go.Value.bool false] := by kernel_rfl
theorem zds_95 : zds Try.prog 95 = some [.v (Go.Value.int Go.IntKind.i64 0), .v (Go.Value.int Go.IntKind.i64 0), .v (Go.Value.int Go.IntKind.i64 0), .v (Go.Value.int Go.IntKind.i64 0), .v (Go.Value.int Go.IntKind.i64 0), .v (Go.Value.int Go.IntKind.i64 0), .v (Go.Value.bool false)] := by kernel_rfl
theorem fld_95_0 : fld Try.prog 95 0 = some (0, 60) := by kernel_rfl
theorem fld_95_1 : fld Try.prog 95 1 = some (2, 60) := by kernel_rfl
theorem fld_95_2 : fld Try.prog 95 2 = some (4, 60) := by kernel_rfl
theorem fld_95_3 : fld Try.prog 95 3 = some (6, 4) := by kernel_rfl
theorem stf_95 : stf Try.prog 95 = some [(0, 2), (2, 2), (4, 2), (6, 1)] := by kernel_rfl
theorem arr_95 : arr Try.prog 95 = none := by kernel_rfl
theorem apf_95 : apf Try.prog 95 = some (7, 56) := by kernel_rfl
theorem tyc_96 : tyc Try.prog 96 = some (false, 1) := by kernel_rfl
theorem zer_96 : zer Try.prog 96 = some [Go.Value.nilFunc] := by kernel_rfl
theorem tyc_97 : tyc Try.prog 97 = some (false, 1) := by kernel_rfl
theorem zer_97 : zer Try.prog 97 = some [Go.Value.nilFunc] := by kernel_rfl
theorem tyc_98 : tyc Try.prog 98 = some (false, 1) := by kernel_rfl
theorem zer_98 : zer Try.prog 98 = some [Go.Value.nilFunc] := by kernel_rfl
theorem tyc_99 : tyc Try.prog 99 = some (false, 1) := by kernel_rfl
theorem zer_99 : zer Try.prog 99 = some [Go.Value.nilFunc] := by kernel_rfl
theorem tyc_100 : tyc Try.prog 100 = some (false, 1) := by kernel_rfl
theorem zer_100 : zer Try.prog 100 = some [Go.Value.nilFunc] := by kernel_rfl
theorem tyc_101 : tyc Try.prog 101 = some (false, 1) := by kernel_rfl
theorem zer_101 : zer Try.prog 101 = some [Go.Value.nilFunc] := by kernel_rfl
theorem tyc_102 : tyc Try.prog 102 = some (false, 1) := by kernel_rfl
theorem zer_102 : zer Try.prog 102 = some [Go.Value.nilFunc] := by kernel_rfl
theorem tyc_103 : tyc Try.prog 103 = some (false, 1) := by kernel_rfl
theorem zer_103 : zer Try.prog 103 = some [Go.Value.nilFunc] := by kernel_rfl
theorem tyc_104 : tyc Try.prog 104 = some (false, 1) := by kernel_rfl
theorem zer_104 : zer Try.prog 104 = some [Go.Value.slice none 0 0] := by kernel_rfl
theorem zds_104 : zds Try.prog 104 = some [.sl 1 []] := by kernel_rfl
theorem elt_104 : elt Try.prog 104 = some (23, 1) := by kernel_rfl
theorem apf_104 : apf Try.prog 104 = some (1, 24) := by kernel_rfl
theorem tyc_105 : tyc Try.prog 105 = some (false, 1) := by kernel_rfl
theorem zer_105 : zer Try.prog 105 = some [Go.Value.nilFunc] := by kernel_rfl
theorem tyc_106 : tyc Try.prog 106 = some (false, 1) := by kernel_rfl
theorem zer_106 : zer Try.prog 106 = some [Go.Value.nilFunc] := by kernel_rfl
theorem tyc_107 : tyc Try.prog 107 = some (false, 1) := by kernel_rfl
theorem zer_107 : zer Try.prog 107 = some [Go.Value.nilFunc] := by kernel_rfl
theorem tyc_108 : tyc Try.prog 108 = some (false, 1) := by kernel_rfl
theorem zer_108 : zer Try.prog 108 = some [Go.Value.nilFunc] := by kernel_rfl
theorem tyc_109 : tyc Try.prog 109 = some (false, 1) := by kernel_rfl
theorem zer_109 : zer Try.prog 109 = some [Go.Value.nilFunc] := by kernel_rfl
theorem tyc_110 : tyc Try.prog 110 = some (false, 1) := by kernel_rfl
theorem zer_110 : zer Try.prog 110 = some [Go.Value.nilFunc] := by kernel_rfl
theorem tyc_111 : tyc Try.prog 111 = some (false, 1) := by kernel_rfl
theorem zer_111 : zer Try.prog 111 = some [Go.Value.nilFunc] := by kernel_rfl
theorem tyc_112 : tyc Try.prog 112 = some (false, 1) := by kernel_rfl
theorem zer_112 : zer Try.prog 112 = some [Go.Value.nilFunc] := by kernel_rfl
theorem tyc_113 : tyc Try.prog 113 = some (false, 1) := by kernel_rfl
theorem zer_113 : zer Try.prog 113 = some [Go.Value.nilFunc] := by kernel_rfl
theorem tyc_114 : tyc Try.prog 114 = some (false, 1) := by kernel_rfl
theorem zer_114 : zer Try.prog 114 = some [Go.Value.nilFunc] := by kernel_rfl
theorem tyc_115 : tyc Try.prog 115 = some (false, 1) := by kernel_rfl
theorem zer_115 : zer Try.prog 115 = some [Go.Value.nilFunc] := by kernel_rfl
theorem tyc_116 : tyc Try.prog 116 = some (true, 6) := by kernel_rfl
theorem zer_116 : zer Try.prog 116 = some [Go.Value.int Go.IntKind.i64 0, Go.Value.int Go.IntKind.i64 0, Go.Value.int Go.IntKind.i64 0, Go.Value.int Go.IntKind.i64 0, Go.Value.int Go.IntKind.i64 0, Go.Value.int Go.IntKind.i64 0] := by kernel_rfl
theorem zds_116 : zds Try.prog 116 = some [.v (Go.Value.int Go.IntKind.i64 0), .v (Go.Value.int Go.IntKind.i64 0), .v (Go.Value.int Go.IntKind.i64 0), .v (Go.Value.int Go.IntKind.i64 0), .v (Go.Value.int Go.IntKind.i64 0), .v (Go.Value.int Go.IntKind.i64 0)] := by kernel_rfl
theorem fld_116_0 : fld Try.prog 116 0 = some (0, 60) := by kernel_rfl
theorem fld_116_1 : fld Try.prog 116 1 = some (2, 60) := by kernel_rfl
theorem fld_116_2 : fld Try.prog 116 2 = some (4, 60) := by kernel_rfl
theorem stf_116 : stf Try.prog 116 = some [(0, 2), (2, 2), (4, 2)] := by kernel_rfl
theorem arr_116 : arr Try.prog 116 = none := by kernel_rfl
theorem apf_116 : apf Try.prog 116 = some (6, 48) := by kernel_rfl
theorem tyc_117 : tyc Try.prog 117 = some (true, 6) := by kernel_rfl
theorem zer_117 : zer Try.prog 117 = some [Go.Value.int Go.IntKind.i64 0, Go.Value.int Go.IntKind.i64 0, Go.Value.int Go.IntKind.i64 0, Go.Value.int Go.IntKind.i64 0, Go.Value.int Go.IntKind.i64 0, Go.Value.int Go.IntKind.i64 0] := by kernel_rfl
theorem zds_117 : zds Try.prog 117 = some [.v (Go.Value.int Go.IntKind.i64 0), .v (Go.Value.int Go.IntKind.i64 0), .v (Go.Value.int Go.IntKind.i64 0), .v (Go.Value.int Go.IntKind.i64 0), .v (Go.Value.int Go.IntKind.i64 0), .v (Go.Value.int Go.IntKind.i64 0)] := by kernel_rfl
theorem fld_117_0 : fld Try.prog 117 0 = some (0, 60) := by kernel_rfl
theorem fld_117_1 : fld Try.prog 117 1 = some (2, 60) := by kernel_rfl
theorem fld_117_2 : fld Try.prog 117 2 = some (4, 60) := by kernel_rfl
theorem stf_117 : stf Try.prog 117 = some [(0, 2), (2, 2), (4, 2)] := by kernel_rfl
theorem arr_117 : arr Try.prog 117 = none := by kernel_rfl
theorem apf_117 : apf Try.prog 117 = some (6, 48) := by kernel_rfl
theorem tyc_118 : tyc Try.prog 118 = some (false, 1) := by kernel_rfl
theorem zer_118 : zer Try.prog 118 = some [Go.Value.nilFunc] := by kernel_rfl
theorem tyc_119 : tyc Try.prog 119 = some (false, 1) := by kernel_rfl
theorem zer_119 : zer Try.prog 119 = some [Go.Value.nilFunc] := by kernel_rfl
theorem tyc_120 : tyc Try.prog 120 = some (false, 1) := by kernel_rfl
theorem zer_120 : zer Try.prog 120 = some [Go.Value.nilFunc] := by kernel_rfl
theorem tyc_121 : tyc Try.prog 121 = some (false, 1) := by kernel_rfl
theorem zer_121 : zer Try.prog 121 = some [Go.Value.nilFunc] := by kernel_rfl
theorem tyc_122 : tyc Try.prog 122 = some (false, 1) := by kernel_rfl
theorem zer_122 : zer Try.prog 122 = some [Go.Value.nilFunc] := by kernel_rfl
theorem tyc_123 : tyc Try.prog 123 = some (false, 1) := by kernel_rfl
theorem zer_123 : zer Try.prog 123 = some [Go.Value.nilFunc] := by kernel_rfl
theorem tyc_124 : tyc Try.prog 124 = some (true, 4) := by kernel_rfl
theorem zer_124 : zer Try.prog 124 = some [Go.Value.pointer none, Go.Value.pointer none, Go.Value.pointer none, Go.Value.string { data := #[] }] := by kernel_rfl
theorem zds_124 : zds Try.prog 124 = some [.v (Go.Value.pointer none), .v (Go.Value.pointer none), .v (Go.Value.pointer none), .v (Go.Value.string { data := #[] })] := by kernel_rfl
theorem fld_124_0 : fld Try.prog 124 0 = some (0, 17) := by kernel_rfl
theorem fld_124_1 : fld Try.prog 124 1 = some (1, 17) := by kernel_rfl
theorem fld_124_2 : fld Try.prog 124 2 = some (2, 17) := by kernel_rfl
theorem fld_124_3 : fld Try.prog 124 3 = some (3, 9) := by kernel_rfl
theorem stf_124 : stf Try.prog 124 = some [(0, 1), (1, 1), (2, 1), (3, 1)] := by kernel_rfl
theorem arr_124 : arr Try.prog 124 = none := by kernel_rfl
theorem apf_124 : apf Try.prog 124 = some (4, 40) := by kernel_rfl
theorem tyc_125 : tyc Try.prog 125 = some (true, 4) := by kernel_rfl
theorem zer_125 : zer Try.prog 125 = some [Go.Value.pointer none, Go.Value.pointer none, Go.Value.pointer none, Go.Value.string { data := #[] }] := by kernel_rfl
theorem zds_125 : zds Try.prog 125 = some [.v (Go.Value.pointer none), .v (Go.Value.pointer none), .v (Go.Value.pointer none), .v (Go.Value.string { data := #[] })] := by kernel_rfl
theorem fld_125_0 : fld Try.prog 125 0 = some (0, 17) := by kernel_rfl
theorem fld_125_1 : fld Try.prog 125 1 = some (1, 17) := by kernel_rfl
theorem fld_125_2 : fld Try.prog 125 2 = some (2, 17) := by kernel_rfl
theorem fld_125_3 : fld Try.prog 125 3 = some (3, 9) := by kernel_rfl
theorem stf_125 : stf Try.prog 125 = some [(0, 1), (1, 1), (2, 1), (3, 1)] := by kernel_rfl
theorem arr_125 : arr Try.prog 125 = none := by kernel_rfl
theorem apf_125 : apf Try.prog 125 = some (4, 40) := by kernel_rfl
theorem tyc_126 : tyc Try.prog 126 = some (true, 0) := by kernel_rfl
theorem zer_126 : zer Try.prog 126 = some [] := by kernel_rfl
theorem zds_126 : zds Try.prog 126 = some [] := by kernel_rfl
theorem arr_126 : arr Try.prog 126 = some (0, 16, 1) := by kernel_rfl
theorem stf_126 : stf Try.prog 126 = none := by kernel_rfl
theorem tyc_127 : tyc Try.prog 127 = some (true, 0) := by kernel_rfl
theorem zer_127 : zer Try.prog 127 = some [] := by kernel_rfl
theorem zds_127 : zds Try.prog 127 = some [] := by kernel_rfl
theorem stf_127 : stf Try.prog 127 = some [(0, 0)] := by kernel_rfl
theorem arr_127 : arr Try.prog 127 = none := by kernel_rfl
theorem tyc_128 : tyc Try.prog 128 = some (true, 0) := by kernel_rfl
theorem zer_128 : zer Try.prog 128 = some [] := by kernel_rfl
theorem zds_128 : zds Try.prog 128 = some [] := by kernel_rfl
theorem stf_128 : stf Try.prog 128 = some [(0, 0)] := by kernel_rfl
theorem arr_128 : arr Try.prog 128 = none := by kernel_rfl
theorem tyc_129 : tyc Try.prog 129 = some (false, 1) := by kernel_rfl
theorem zer_129 : zer Try.prog 129 = some [Go.Value.int Go.IntKind.u32 0] := by kernel_rfl
theorem zds_129 : zds Try.prog 129 = some [.v (Go.Value.int Go.IntKind.u32 0)] := by kernel_rfl
theorem und_129 : Try.prog.underlying 129 = some (.int .u32) := by kernel_rfl
theorem apf_129 : apf Try.prog 129 = some (1, 4) := by kernel_rfl
theorem tyc_130 : tyc Try.prog 130 = some (false, 1) := by kernel_rfl
theorem zer_130 : zer Try.prog 130 = some [Go.Value.int Go.IntKind.u8 0] := by kernel_rfl
theorem zds_130 : zds Try.prog 130 = some [.v (Go.Value.int Go.IntKind.u8 0)] := by kernel_rfl
theorem und_130 : Try.prog.underlying 130 = some (.int .u8) := by kernel_rfl
theorem apf_130 : apf Try.prog 130 = some (1, 1) := by kernel_rfl
theorem tyc_131 : tyc Try.prog 131 = some (false, 1) := by kernel_rfl
theorem zer_131 : zer Try.prog 131 = some [Go.Value.int Go.IntKind.u8 0] := by kernel_rfl
theorem zds_131 : zds Try.prog 131 = some [.v (Go.Value.int Go.IntKind.u8 0)] := by kernel_rfl
theorem und_131 : Try.prog.underlying 131 = some (.int .u8) := by kernel_rfl
theorem apf_131 : apf Try.prog 131 = some (1, 1) := by kernel_rfl
theorem tyc_132 : tyc Try.prog 132 = some (false, 1) := by kernel_rfl
theorem zer_132 : zer Try.prog 132 = some [Go.Value.nilFunc] := by kernel_rfl
theorem tyc_133 : tyc Try.prog 133 = some (false, 1) := by kernel_rfl
theorem zer_133 : zer Try.prog 133 = some [Go.Value.pointer none] := by kernel_rfl
theorem zds_133 : zds Try.prog 133 = some [.v (Go.Value.pointer none)] := by kernel_rfl
theorem apf_133 : apf Try.prog 133 = some (1, 8) := by kernel_rfl
theorem tyc_134 : tyc Try.prog 134 = some (false, 1) := by kernel_rfl
theorem zer_134 : zer Try.prog 134 = some [Go.Value.int Go.IntKind.i32 0] := by kernel_rfl
theorem zds_134 : zds Try.prog 134 = some [.v (Go.Value.int Go.IntKind.i32 0)] := by kernel_rfl
theorem und_134 : Try.prog.underlying 134 = some (.int .i32) := by kernel_rfl
theorem apf_134 : apf Try.prog 134 = some (1, 4) := by kernel_rfl
theorem tyc_135 : tyc Try.prog 135 = some (false, 1) := by kernel_rfl
theorem zer_135 : zer Try.prog 135 = some [Go.Value.int Go.IntKind.i32 0] := by kernel_rfl
theorem zds_135 : zds Try.prog 135 = some [.v (Go.Value.int Go.IntKind.i32 0)] := by kernel_rfl
theorem und_135 : Try.prog.underlying 135 = some (.int .i32) := by kernel_rfl
theorem apf_135 : apf Try.prog 135 = some (1, 4) := by kernel_rfl
theorem tyc_136 : tyc Try.prog 136 = some (true, 11) := by kernel_rfl
theorem zer_136 : zer Try.prog 136 = some [Go.Value.int Go.IntKind.u64 0, Go.Value.int Go.IntKind.u64 0, Go.Value.int Go.IntKind.u32 0, Go.Value.int Go.IntKind.u8 0, Go.Value.int Go.IntKind.u8 0, Go.Value.int Go.IntKind.u8 0, Go.Value.int Go.IntKind.u8 0, Go.Value.nilFunc, Go.Value.pointer none, Go.Value.int Go.IntKind.i32 0, Go.Value.int Go.IntKind.i32 0] := by kernel_rfl
theorem zds_136 : zds Try.prog 136 = some [.v (Go.Value.int Go.IntKind.u64 0), .v (Go.Value.int Go.IntKind.u64 0), .v (Go.Value.int Go.IntKind.u32 0), .v (Go.Value.int Go.IntKind.u8 0), .v (Go.Value.int Go.IntKind.u8 0), .v (Go.Value.int Go.IntKind.u8 0), .v (Go.Value.int Go.IntKind.u8 0), .v (Go.Value.nilFunc), .v (Go.Value.pointer none), .v (Go.Value.int Go.IntKind.i32 0), .v (Go.Value.int Go.IntKind.i32 0)] := by kernel_rfl
theorem fld_136_0 : fld Try.prog 136 0 = some (0, 12) := by kernel_rfl
theorem fld_136_1 : fld Try.prog 136 1 = some (1, 12) := by kernel_rfl
theorem fld_136_2 : fld Try.prog 136 2 = some (2, 129) := by kernel_rfl
theorem fld_136_3 : fld Try.prog 136 3 = some (3, 130) := by kernel_rfl
theorem fld_136_4 : fld Try.prog 136 4 = some (4, 5) := by kernel_rfl
theorem fld_136_5 : fld Try.prog 136 5 = some (5, 5) := by kernel_rfl
theorem fld_136_6 : fld Try.prog 136 6 = some (6, 131) := by kernel_rfl
theorem fld_136_7 : fld Try.prog 136 7 = some (7, 132) := by kernel_rfl
theorem fld_136_8 : fld Try.prog 136 8 = some (8, 133) := by kernel_rfl
theorem fld_136_9 : fld Try.prog 136 9 = some (9, 134) := by kernel_rfl
theorem fld_136_10 : fld Try.prog 136 10 = some (10, 135) := by kernel_rfl
theorem stf_136 : stf Try.prog 136 = some [(0, 1), (1, 1), (2, 1), (3, 1), (4, 1), (5, 1), (6, 1), (7, 1), (8, 1), (9, 1), (10, 1)] := by kernel_rfl
theorem arr_136 : arr Try.prog 136 = none := by kernel_rfl
theorem apf_136 : apf Try.prog 136 = some (11, 48) := by kernel_rfl
theorem tyc_137 : tyc Try.prog 137 = some (true, 11) := by kernel_rfl
theorem zer_137 : zer Try.prog 137 = some [Go.Value.int Go.IntKind.u64 0, Go.Value.int Go.IntKind.u64 0, Go.Value.int Go.IntKind.u32 0, Go.Value.int Go.IntKind.u8 0, Go.Value.int Go.IntKind.u8 0, Go.Value.int Go.IntKind.u8 0, Go.Value.int Go.IntKind.u8 0, Go.Value.nilFunc, Go.Value.pointer none, Go.Value.int Go.IntKind.i32 0, Go.Value.int Go.IntKind.i32 0] := by kernel_rfl
theorem zds_137 : zds Try.prog 137 = some [.v (Go.Value.int Go.IntKind.u64 0), .v (Go.Value.int Go.IntKind.u64 0), .v (Go.Value.int Go.IntKind.u32 0), .v (Go.Value.int Go.IntKind.u8 0), .v (Go.Value.int Go.IntKind.u8 0), .v (Go.Value.int Go.IntKind.u8 0), .v (Go.Value.int Go.IntKind.u8 0), .v (Go.Value.nilFunc), .v (Go.Value.pointer none), .v (Go.Value.int Go.IntKind.i32 0), .v (Go.Value.int Go.IntKind.i32 0)] := by kernel_rfl
theorem fld_137_0 : fld Try.prog 137 0 = some (0, 12) := by kernel_rfl
theorem fld_137_1 : fld Try.prog 137 1 = some (1, 12) := by kernel_rfl
theorem fld_137_2 : fld Try.prog 137 2 = some (2, 129) := by kernel_rfl
theorem fld_137_3 : fld Try.prog 137 3 = some (3, 130) := by kernel_rfl
theorem fld_137_4 : fld Try.prog 137 4 = some (4, 5) := by kernel_rfl
theorem fld_137_5 : fld Try.prog 137 5 = some (5, 5) := by kernel_rfl
theorem fld_137_6 : fld Try.prog 137 6 = some (6, 131) := by kernel_rfl
theorem fld_137_7 : fld Try.prog 137 7 = some (7, 132) := by kernel_rfl
theorem fld_137_8 : fld Try.prog 137 8 = some (8, 133) := by kernel_rfl
theorem fld_137_9 : fld Try.prog 137 9 = some (9, 134) := by kernel_rfl
theorem fld_137_10 : fld Try.prog 137 10 = some (10, 135) := by kernel_rfl
theorem stf_137 : stf Try.prog 137 = some [(0, 1), (1, 1), (2, 1), (3, 1), (4, 1), (5, 1), (6, 1), (7, 1), (8, 1), (9, 1), (10, 1)] := by kernel_rfl
theorem arr_137 : arr Try.prog 137 = none := by kernel_rfl
theorem apf_137 : apf Try.prog 137 = some (11, 48) := by kernel_rfl
theorem fun_0 : Try.prog.funcs[0]? = some Try.f0 := by kernel_rfl
theorem fun_1 : Try.prog.funcs[1]? = some Try.f1 := by kernel_rfl
theorem fun_2 : Try.prog.funcs[2]? = some Try.f2 := by kernel_rfl
theorem fun_3 : Try.prog.funcs[3]? = some Try.f3 := by kernel_rfl
theorem fun_4 : Try.prog.funcs[4]? = some Try.f4 := by kernel_rfl
theorem fun_5 : Try.prog.funcs[5]? = some Try.f5 := by kernel_rfl
theorem fun_6 : Try.prog.funcs[6]? = some Try.f6 := by kernel_rfl
theorem fun_7 : Try.prog.funcs[7]? = some Try.f7 := by kernel_rfl
theorem fun_8 : Try.prog.funcs[8]? = some Try.f8 := by kernel_rfl
theorem fun_9 : Try.prog.funcs[9]? = some Try.f9 := by kernel_rfl
theorem fun_10 : Try.prog.funcs[10]? = some Try.f10 := by kernel_rfl
theorem fun_11 : Try.prog.funcs[11]? = some Try.f11 := by kernel_rfl
theorem fun_12 : Try.prog.funcs[12]? = some Try.f12 := by kernel_rfl
theorem fun_13 : Try.prog.funcs[13]? = some Try.f13 := by kernel_rfl
theorem fun_14 : Try.prog.funcs[14]? = some Try.f14 := by kernel_rfl
theorem fun_15 : Try.prog.funcs[15]? = some Try.f15 := by kernel_rfl
theorem fun_16 : Try.prog.funcs[16]? = some Try.f16 := by kernel_rfl
theorem fun_17 : Try.prog.funcs[17]? = some Try.f17 := by kernel_rfl
theorem fun_18 : Try.prog.funcs[18]? = some Try.f18 := by kernel_rfl
theorem fun_19 : Try.prog.funcs[19]? = some Try.f19 := by kernel_rfl
theorem fun_20 : Try.prog.funcs[20]? = some Try.f20 := by kernel_rfl
theorem fun_21 : Try.prog.funcs[21]? = some Try.f21 := by kernel_rfl
theorem fun_22 : Try.prog.funcs[22]? = some Try.f22 := by kernel_rfl
theorem fun_23 : Try.prog.funcs[23]? = some Try.f23 := by kernel_rfl
theorem fun_24 : Try.prog.funcs[24]? = some Try.f24 := by kernel_rfl
theorem fun_25 : Try.prog.funcs[25]? = some Try.f25 := by kernel_rfl
theorem fun_26 : Try.prog.funcs[26]? = some Try.f26 := by kernel_rfl
theorem fun_27 : Try.prog.funcs[27]? = some Try.f27 := by kernel_rfl
theorem fun_28 : Try.prog.funcs[28]? = some Try.f28 := by kernel_rfl
theorem fun_29 : Try.prog.funcs[29]? = some Try.f29 := by kernel_rfl
theorem fun_30 : Try.prog.funcs[30]? = some Try.f30 := by kernel_rfl
theorem fun_31 : Try.prog.funcs[31]? = some Try.f31 := by kernel_rfl
theorem fun_32 : Try.prog.funcs[32]? = some Try.f32 := by kernel_rfl
theorem fun_33 : Try.prog.funcs[33]? = some Try.f33 := by kernel_rfl
theorem fun_34 : Try.prog.funcs[34]? = some Try.f34 := by kernel_rfl
theorem fun_35 : Try.prog.funcs[35]? = some Try.f35 := by kernel_rfl
theorem fun_36 : Try.prog.funcs[36]? = some Try.f36 := by kernel_rfl
theorem fun_37 : Try.prog.funcs[37]? = some Try.f37 := by kernel_rfl
theorem fun_38 : Try.prog.funcs[38]? = some Try.f38 := by kernel_rfl
theorem fun_39 : Try.prog.funcs[39]? = some Try.f39 := by kernel_rfl
theorem fun_40 : Try.prog.funcs[40]? = some Try.f40 := by kernel_rfl
theorem fun_41 : Try.prog.funcs[41]? = some Try.f41 := by kernel_rfl
theorem fun_42 : Try.prog.funcs[42]? = some Try.f42 := by kernel_rfl
theorem fun_43 : Try.prog.funcs[43]? = some Try.f43 := by kernel_rfl
theorem fun_44 : Try.prog.funcs[44]? = some Try.f44 := by kernel_rfl
theorem fun_45 : Try.prog.funcs[45]? = some Try.f45 := by kernel_rfl
theorem fun_46 : Try.prog.funcs[46]? = some Try.f46 := by kernel_rfl
theorem fun_47 : Try.prog.funcs[47]? = some Try.f47 := by kernel_rfl
theorem fun_48 : Try.prog.funcs[48]? = some Try.f48 := by kernel_rfl
theorem fun_49 : Try.prog.funcs[49]? = some Try.f49 := by kernel_rfl
theorem fun_50 : Try.prog.funcs[50]? = some Try.f50 := by kernel_rfl
theorem fun_51 : Try.prog.funcs[51]? = some Try.f51 := by kernel_rfl
theorem fun_52 : Try.prog.funcs[52]? = some Try.f52 := by kernel_rfl
theorem fun_53 : Try.prog.funcs[53]? = some Try.f53 := by kernel_rfl
theorem fun_54 : Try.prog.funcs[54]? = some Try.f54 := by kernel_rfl
theorem fun_55 : Try.prog.funcs[55]? = some Try.f55 := by kernel_rfl
theorem fun_56 : Try.prog.funcs[56]? = some Try.f56 := by kernel_rfl
theorem fun_57 : Try.prog.funcs[57]? = some Try.f57 := by kernel_rfl
theorem fun_58 : Try.prog.funcs[58]? = some Try.f58 := by kernel_rfl
theorem fun_59 : Try.prog.funcs[59]? = some Try.f59 := by kernel_rfl
theorem fun_60 : Try.prog.funcs[60]? = some Try.f60 := by kernel_rfl
theorem fun_61 : Try.prog.funcs[61]? = some Try.f61 := by kernel_rfl
theorem fun_62 : Try.prog.funcs[62]? = some Try.f62 := by kernel_rfl
theorem fun_63 : Try.prog.funcs[63]? = some Try.f63 := by kernel_rfl
theorem fun_64 : Try.prog.funcs[64]? = some Try.f64 := by kernel_rfl
theorem fun_65 : Try.prog.funcs[65]? = some Try.f65 := by kernel_rfl
theorem fun_66 : Try.prog.funcs[66]? = some Try.f66 := by kernel_rfl
theorem fun_67 : Try.prog.funcs[67]? = some Try.f67 := by kernel_rfl
theorem fun_68 : Try.prog.funcs[68]? = some Try.f68 := by kernel_rfl
theorem fun_69 : Try.prog.funcs[69]? = some Try.f69 := by kernel_rfl
theorem fun_70 : Try.prog.funcs[70]? = some Try.f70 := by kernel_rfl
theorem fun_71 : Try.prog.funcs[71]? = some Try.f71 := by kernel_rfl
theorem fun_72 : Try.prog.funcs[72]? = some Try.f72 := by kernel_rfl
theorem fun_73 : Try.prog.funcs[73]? = some Try.f73 := by kernel_rfl
theorem fun_74 : Try.prog.funcs[74]? = some Try.f74 := by kernel_rfl
theorem fun_75 : Try.prog.funcs[75]? = some Try.f75 := by kernel_rfl
theorem fun_76 : Try.prog.funcs[76]? = some Try.f76 := by kernel_rfl
theorem fun_77 : Try.prog.funcs[77]? = some Try.f77 := by kernel_rfl
theorem fun_78 : Try.prog.funcs[78]? = some Try.f78 := by kernel_rfl
theorem fun_79 : Try.prog.funcs[79]? = some Try.f79 := by kernel_rfl
theorem fun_80 : Try.prog.funcs[80]? = some Try.f80 := by kernel_rfl
theorem fun_81 : Try.prog.funcs[81]? = some Try.f81 := by kernel_rfl
theorem fun_82 : Try.prog.funcs[82]? = some Try.f82 := by kernel_rfl
theorem fun_83 : Try.prog.funcs[83]? = some Try.f83 := by kernel_rfl
theorem fun_84 : Try.prog.funcs[84]? = some Try.f84 := by kernel_rfl
theorem fun_85 : Try.prog.funcs[85]? = some Try.f85 := by kernel_rfl
theorem fun_86 : Try.prog.funcs[86]? = some Try.f86 := by kernel_rfl
theorem fun_87 : Try.prog.funcs[87]? = some Try.f87 := by kernel_rfl
theorem fun_88 : Try.prog.funcs[88]? = some Try.f88 := by kernel_rfl
theorem fun_89 : Try.prog.funcs[89]? = some Try.f89 := by kernel_rfl
theorem fun_90 : Try.prog.funcs[90]? = some Try.f90 := by kernel_rfl
theorem fun_91 : Try.prog.funcs[91]? = some Try.f91 := by kernel_rfl
theorem fun_92 : Try.prog.funcs[92]? = some Try.f92 := by kernel_rfl
theorem fun_93 : Try.prog.funcs[93]? = some Try.f93 := by kernel_rfl
theorem fun_94 : Try.prog.funcs[94]? = some Try.f94 := by kernel_rfl
theorem fun_95 : Try.prog.funcs[95]? = some Try.f95 := by kernel_rfl
theorem fun_96 : Try.prog.funcs[96]? = some Try.f96 := by kernel_rfl
theorem fun_97 : Try.prog.funcs[97]? = some Try.f97 := by kernel_rfl
theorem fun_98 : Try.prog.funcs[98]? = some Try.f98 := by kernel_rfl
theorem fun_99 : Try.prog.funcs[99]? = some Try.f99 := by kernel_rfl
theorem fun_100 : Try.prog.funcs[100]? = some Try.f100 := by kernel_rfl
theorem fun_101 : Try.prog.funcs[101]? = some Try.f101 := by kernel_rfl
theorem fun_102 : Try.prog.funcs[102]? = some Try.f102 := by kernel_rfl
theorem fun_103 : Try.prog.funcs[103]? = some Try.f103 := by kernel_rfl
theorem fun_104 : Try.prog.funcs[104]? = some Try.f104 := by kernel_rfl
theorem fun_105 : Try.prog.funcs[105]? = some Try.f105 := by kernel_rfl
theorem fun_106 : Try.prog.funcs[106]? = some Try.f106 := by kernel_rfl
theorem fun_107 : Try.prog.funcs[107]? = some Try.f107 := by kernel_rfl
theorem fun_108 : Try.prog.funcs[108]? = some Try.f108 := by kernel_rfl
theorem fun_109 : Try.prog.funcs[109]? = some Try.f109 := by kernel_rfl
theorem fun_110 : Try.prog.funcs[110]? = some Try.f110 := by kernel_rfl
theorem fun_111 : Try.prog.funcs[111]? = some Try.f111 := by kernel_rfl
theorem fun_112 : Try.prog.funcs[112]? = some Try.f112 := by kernel_rfl
theorem fun_113 : Try.prog.funcs[113]? = some Try.f113 := by kernel_rfl
theorem fun_114 : Try.prog.funcs[114]? = some Try.f114 := by kernel_rfl
theorem fun_115 : Try.prog.funcs[115]? = some Try.f115 := by kernel_rfl
theorem fun_116 : Try.prog.funcs[116]? = some Try.f116 := by kernel_rfl
theorem fun_117 : Try.prog.funcs[117]? = some Try.f117 := by kernel_rfl
theorem fun_118 : Try.prog.funcs[118]? = some Try.f118 := by kernel_rfl
def fA0 := (And.intro (And.intro (And.intro (And.intro (And.intro (And.intro (And.intro (And.intro (And.intro @tyc_1 @zer_1) (And.intro @tyc_2 @zer_2)) (And.intro (And.intro @zds_2 @und_2) (And.intro @apf_2 @tyc_3))) (And.intro (And.intro (And.intro @zer_3 @zds_3) (And.intro @und_3 @apf_3)) (And.intro (And.intro @tyc_4 @zer_4) (And.intro @zds_4 @und_4)))) (And.intro (And.intro (And.intro (And.intro @apf_4 @tyc_5) (And.intro @zer_5 @zds_5)) (And.intro (And.intro @und_5 @apf_5) (And.intro @tyc_6 @zer_6))) (And.intro (And.intro (And.intro @zds_6 @und_6) (And.intro @apf_6 @tyc_7)) (And.intro (And.intro @zer_7 @zds_7) (And.intro @fld_7_0 @fld_7_1))))) (And.intro (And.intro (And.intro (And.intro (And.intro @fld_7_2 @fld_7_3) (And.intro @stf_7 @arr_7)) (And.intro (And.intro @apf_7 @tyc_8) (And.intro @zer_8 @zds_8))) (And.intro (And.intro (And.intro @fld_8_0 @fld_8_1) (And.intro @fld_8_2 @fld_8_3)) (And.intro (And.intro @stf_8 @arr_8) (And.intro @apf_8 @tyc_9)))) (And.intro (And.intro (And.intro (And.intro @zer_9 @zds_9) (And.intro @apf_9 @tyc_10)) (And.intro (And.intro @zer_10 @zds_10) (And.intro @apf_10 @tyc_11))) (And.intro (And.intro (And.intro @zer_11 @zds_11) (And.intro @apf_11 @tyc_12)) (And.intro (And.intro @zer_12 @zds_12) (And.intro @und_12 (And.intro @apf_12 @tyc_13))))))) (And.intro (And.intro (And.intro (And.intro (And.intro (And.intro @zer_13 @zds_13) (And.intro @fld_13_0 @fld_13_1)) (And.intro (And.intro @stf_13 @arr_13) (And.intro @apf_13 @tyc_14))) (And.intro (And.intro (And.intro @zer_14 @zds_14) (And.intro @fld_14_0 @fld_14_1)) (And.intro (And.intro @stf_14 @arr_14) (And.intro @apf_14 @tyc_15)))) (And.intro (And.intro (And.intro (And.intro @zer_15 @zds_15) (And.intro @apf_15 @tyc_16)) (And.intro (And.intro @zer_16 @zds_16) (And.intro @apf_16 @tyc_17))) (And.intro (And.intro (And.intro @zer_17 @zds_17) (And.intro @apf_17 @tyc_18)) (And.intro (And.intro @zer_18 @zds_18) (And.intro @fld_18_0 (And.intro @stf_18 @arr_18)))))) (And.intro (And.intro (And.intro (And.intro (And.intro @apf_18 @tyc_19) (And.intro @zer_19 @zds_19)) (And.intro (And.intro @fld_19_0 @stf_19) (And.intro @arr_19 @apf_19))) (And.intro (And.intro (And.intro @tyc_21 @zer_21) (And.intro @zds_21 @und_21)) (And.intro (And.intro @apf_21 @tyc_22) (And.intro @zer_22 @zds_22)))) (And.intro (And.intro (And.intro (And.intro @elt_22 @apf_22) (And.intro @tyc_23 @zer_23)) (And.intro (And.intro @zds_23 @elt_23) (And.intro @apf_23 @tyc_24))) (And.intro (And.intro (And.intro @zer_24 @zds_24) (And.intro @fld_24_0 @fld_24_1)) (And.intro (And.intro @fld_24_2 @stf_24) (And.intro @arr_24 (And.intro @apf_24 @tyc_25)))))))) (And.intro (And.intro (And.intro (And.intro (And.intro (And.intro (And.intro @zer_25 @zds_25) (And.intro @fld_25_0 @fld_25_1)) (And.intro (And.intro @fld_25_2 @stf_25) (And.intro @arr_25 @apf_25))) (And.intro (And.intro (And.intro @tyc_26 @zer_26) (And.intro @zds_26 @elt_26)) (And.intro (And.intro @apf_26 @tyc_27) (And.intro @zer_27 @tyc_28)))) (And.intro (And.intro (And.intro (And.intro @zer_28 @tyc_29) (And.intro @zer_29 @tyc_30)) (And.intro (And.intro @zer_30 @tyc_31) (And.intro @zer_31 @zds_31))) (And.intro (And.intro (And.intro @und_31 @apf_31) (And.intro @tyc_32 @zer_32)) (And.intro (And.intro @tyc_34 @zer_34) (And.intro @tyc_35 @zer_35))))) (And.intro (And.intro (And.intro (And.intro (And.intro @tyc_36 @zer_36) (And.intro @tyc_37 @zer_37)) (And.intro (And.intro @tyc_38 @zer_38) (And.intro @tyc_39 @zer_39))) (And.intro (And.intro (And.intro @tyc_40 @zer_40) (And.intro @tyc_42 @zer_42)) (And.intro (And.intro @tyc_43 @zer_43) (And.intro @tyc_45 @zer_45)))) (And.intro (And.intro (And.intro (And.intro @tyc_46 @zer_46) (And.intro @tyc_48 @zer_48)) (And.intro (And.intro @tyc_50 @zer_50) (And.intro @tyc_52 @zer_52))) (And.intro (And.intro (And.intro @tyc_53 @zer_53) (And.intro @tyc_54 @zer_54)) (And.intro (And.intro @tyc_55 @zer_55) (And.intro @tyc_56 (And.intro @zer_56 @tyc_57))))))) (And.intro (And.intro (And.intro (And.intro (And.intro (And.intro @zer_57 @tyc_58) (And.intro @zer_58 @tyc_59)) (And.intro (And.intro @zer_59 @zds_59) (And.intro @fld_59_0 @fld_59_1))) (And.intro (And.intro (And.intro @stf_59 @arr_59) (And.intro @apf_59 @tyc_60)) (And.intro (And.intro @zer_60 @zds_60) (And.intro @fld_60_0 @fld_60_1)))) (And.intro (And.intro (And.intro (And.intro @stf_60 @arr_60) (And.intro @apf_60 @tyc_61)) (And.intro (And.intro @zer_61 @tyc_62) (And.intro @zer_62 @tyc_63))) (And.intro (And.intro (And.intro @zer_63 @tyc_64) (And.intro @zer_64 @tyc_66)) (And.intro (And.intro @zer_66 @tyc_68) (And.intro @zer_68 (And.intro @tyc_69 @zer_69)))))) (And.intro (And.intro (And.intro (And.intro (And.intro @tyc_70 @zer_70) (And.intro @tyc_71 @zer_71)) (And.intro (And.intro @tyc_72 @zer_72) (And.intro @zds_72 @und_72))) (And.intro (And.intro (And.intro @apf_72 @tyc_73) (And.intro @zer_73 @zds_73)) (And.intro (And.intro @fld_73_0 @fld_73_1) (And.intro @fld_73_2 @fld_73_3)))) (And.intro (And.intro (And.intro (And.intro @stf_73 @arr_73) (And.intro @apf_73 @tyc_74)) (And.intro (And.intro @zer_74 @zds_74) (And.intro @fld_74_0 @fld_74_1))) (And.intro (And.intro (And.intro @fld_74_2 @fld_74_3) (And.intro @stf_74 @arr_74)) (And.intro (And.intro @apf_74 @tyc_75) (And.intro @zer_75 (And.intro @tyc_76 @zer_76))))))))) (And.intro (And.intro (And.intro (And.intro (And.intro (And.intro (And.intro (And.intro @tyc_77 @zer_77) (And.intro @tyc_78 @zer_78)) (And.intro (And.intro @zds_78 @fld_78_0) (And.intro @fld_78_1 @stf_78))) (And.intro (And.intro (And.intro @arr_78 @apf_78) (And.intro @tyc_79 @zer_79)) (And.intro (And.intro @tyc_80 @zer_80) (And.intro @tyc_81 @zer_81)))) (And.intro (And.intro (And.intro (And.intro @tyc_82 @zer_82) (And.intro @tyc_83 @zer_83)) (And.intro (And.intro @tyc_84 @zer_84) (And.intro @zds_84 @arr_84))) (And.intro (And.intro (And.intro @stf_84 @apf_84) (And.intro @tyc_85 @zer_85)) (And.intro (And.intro @zds_85 @fld_85_0) (And.intro @fld_85_1 @stf_85))))) (And.intro (And.intro (And.intro (And.intro (And.intro @arr_85 @apf_85) (And.intro @tyc_86 @zer_86)) (And.intro (And.intro @zds_86 @fld_86_0) (And.intro @fld_86_1 @stf_86))) (And.intro (And.intro (And.intro @arr_86 @apf_86) (And.intro @tyc_88 @zer_88)) (And.intro (And.intro @tyc_89 @zer_89) (And.intro @tyc_90 @zer_90)))) (And.intro (And.intro (And.intro (And.intro @tyc_91 @zer_91) (And.intro @zds_91 @fld_91_0)) (And.intro (And.intro @fld_91_1 @fld_91_2) (And.intro @fld_91_3 @stf_91))) (And.intro (And.intro (And.intro @arr_91 @apf_91) (And.intro @tyc_92 @zer_92)) (And.intro (And.intro @zds_92 @fld_92_0) (And.intro @fld_92_1 (And.intro @fld_92_2 @fld_92_3))))))) (And.intro (And.intro (And.intro (And.intro (And.intro (And.intro @stf_92 @arr_92) (And.intro @apf_92 @tyc_93)) (And.intro (And.intro @zer_93 @tyc_94) (And.intro @zer_94 @zds_94))) (And.intro (And.intro (And.intro @fld_94_0 @fld_94_1) (And.intro @fld_94_2 @fld_94_3)) (And.intro (And.intro @stf_94 @arr_94) (And.intro @apf_94 @tyc_95)))) (And.intro (And.intro (And.intro (And.intro @zer_95 @zds_95) (And.intro @fld_95_0 @fld_95_1)) (And.intro (And.intro @fld_95_2 @fld_95_3) (And.intro @stf_95 @arr_95))) (And.intro (And.intro (And.intro @apf_95 @tyc_96) (And.intro @zer_96 @tyc_97)) (And.intro (And.intro @zer_97 @tyc_98) (And.intro @zer_98 (And.intro @tyc_99 @zer_99)))))) (And.intro (And.intro (And.intro (And.intro (And.intro @tyc_100 @zer_100) (And.intro @tyc_101 @zer_101)) (And.intro (And.intro @tyc_102 @zer_102) (And.intro @tyc_103 @zer_103))) (And.intro (And.intro (And.intro @tyc_104 @zer_104) (And.intro @zds_104 @elt_104)) (And.intro (And.intro @apf_104 @tyc_105) (And.intro @zer_105 @tyc_106)))) (And.intro (And.intro (And.intro (And.intro @zer_106 @tyc_107) (And.intro @zer_107 @tyc_108)) (And.intro (And.intro @zer_108 @tyc_109) (And.intro @zer_109 @tyc_110))) (And.intro (And.intro (And.intro @zer_110 @tyc_111) (And.intro @zer_111 @tyc_112)) (And.intro (And.intro @zer_112 @tyc_113) (And.intro @zer_113 (And.intro @tyc_114 @zer_114)))))))) (And.intro (And.intro (And.intro (And.intro (And.intro (And.intro (And.intro @tyc_115 @zer_115) (And.intro @tyc_116 @zer_116)) (And.intro (And.intro @zds_116 @fld_116_0) (And.intro @fld_116_1 @fld_116_2))) (And.intro (And.intro (And.intro @stf_116 @arr_116) (And.intro @apf_116 @tyc_117)) (And.intro (And.intro @zer_117 @zds_117) (And.intro @fld_117_0 @fld_117_1)))) (And.intro (And.intro (And.intro (And.intro @fld_117_2 @stf_117) (And.intro @arr_117 @apf_117)) (And.intro (And.intro @tyc_118 @zer_118) (And.intro @tyc_119 @zer_119))) (And.intro (And.intro (And.intro @tyc_120 @zer_120) (And.intro @tyc_121 @zer_121)) (And.intro (And.intro @tyc_122 @zer_122) (And.intro @tyc_123 (And.intro @zer_123 @tyc_124)))))) (And.intro (And.intro (And.intro (And.intro (And.intro @zer_124 @zds_124) (And.intro @fld_124_0 @fld_124_1)) (And.intro (And.intro @fld_124_2 @fld_124_3) (And.intro @stf_124 @arr_124))) (And.intro (And.intro (And.intro @apf_124 @tyc_125) (And.intro @zer_125 @zds_125)) (And.intro (And.intro @fld_125_0 @fld_125_1) (And.intro @fld_125_2 @fld_125_3)))) (And.intro (And.intro (And.intro (And.intro @stf_125 @arr_125) (And.intro @apf_125 @tyc_126)) (And.intro (And.intro @zer_126 @zds_126) (And.intro @arr_126 @stf_126))) (And.intro (And.intro (And.intro @tyc_127 @zer_127) (And.intro @zds_127 @stf_127)) (And.intro (And.intro @arr_127 @tyc_128) (And.intro @zer_128 (And.intro @zds_128 @stf_128))))))) (And.intro (And.intro (And.intro (And.intro (And.intro (And.intro @arr_128 @tyc_129) (And.intro @zer_129 @zds_129)) (And.intro (And.intro @und_129 @apf_129) (And.intro @tyc_130 @zer_130))) (And.intro (And.intro (And.intro @zds_130 @und_130) (And.intro @apf_130 @tyc_131)) (And.intro (And.intro @zer_131 @zds_131) (And.intro @und_131 @apf_131)))) (And.intro (And.intro (And.intro (And.intro @tyc_132 @zer_132) (And.intro @tyc_133 @zer_133)) (And.intro (And.intro @zds_133 @apf_133) (And.intro @tyc_134 @zer_134))) (And.intro (And.intro (And.intro @zds_134 @und_134) (And.intro @apf_134 @tyc_135)) (And.intro (And.intro @zer_135 @zds_135) (And.intro @und_135 (And.intro @apf_135 @tyc_136)))))) (And.intro (And.intro (And.intro (And.intro (And.intro @zer_136 @zds_136) (And.intro @fld_136_0 @fld_136_1)) (And.intro (And.intro @fld_136_2 @fld_136_3) (And.intro @fld_136_4 @fld_136_5))) (And.intro (And.intro (And.intro @fld_136_6 @fld_136_7) (And.intro @fld_136_8 @fld_136_9)) (And.intro (And.intro @fld_136_10 @stf_136) (And.intro @arr_136 @apf_136)))) (And.intro (And.intro (And.intro (And.intro @tyc_137 @zer_137) (And.intro @zds_137 @fld_137_0)) (And.intro (And.intro @fld_137_1 @fld_137_2) (And.intro @fld_137_3 @fld_137_4))) (And.intro (And.intro (And.intro @fld_137_5 @fld_137_6) (And.intro @fld_137_7 @fld_137_8)) (And.intro (And.intro @fld_137_9 @fld_137_10) (And.intro @stf_137 (And.intro @arr_137 @apf_137))))))))))
theorem fA : type_of% fA0 := fA0
end Go.Proofs.Ytfnohamcmidgbaa.Ab
