/- Facts of the seat: its types and its functions, by number. -/
import Derived.Test.YtpnmbpbcgifkeaaZAbV
import Derived.Test.YtpnmbpbcgifkeaaProg
import Derived.KernelRfl
namespace Go.Proofs.Ytpnmbpbcgifkeaa.Ab
open Go Go.RowKit
set_option linter.defProp false
theorem tyc_1 : tyc Try.prog 1 = some (false, 1) := by kernel_rfl
theorem zer_1 : zer Try.prog 1 = some [Go.Value.nilFunc] := by kernel_rfl
theorem tyc_2 : tyc Try.prog 2 = some (false, 1) := by kernel_rfl
theorem zer_2 : zer Try.prog 2 = some [Go.Value.int Go.IntKind.i64 0] := by kernel_rfl
theorem zds_2 : zds Try.prog 2 = some [.v (Go.Value.int Go.IntKind.i64 0)] := by kernel_rfl
theorem und_2 : Try.prog.underlying 2 = some (.int .i64) := by kernel_rfl
theorem apf_2 : apf Try.prog 2 = some (1, 8) := by kernel_rfl
theorem tyc_3 : tyc Try.prog 3 = some (false, 1) := by kernel_rfl
theorem zer_3 : zer Try.prog 3 = some [Go.Value.int Go.IntKind.i64 0] := by kernel_rfl
theorem zds_3 : zds Try.prog 3 = some [.v (Go.Value.int Go.IntKind.i64 0)] := by kernel_rfl
theorem und_3 : Try.prog.underlying 3 = some (.int .i64) := by kernel_rfl
theorem apf_3 : apf Try.prog 3 = some (1, 8) := by kernel_rfl
theorem tyc_4 : tyc Try.prog 4 = some (false, 1) := by kernel_rfl
theorem zer_4 : zer Try.prog 4 = some [Go.Value.bool false] := by kernel_rfl
theorem zds_4 : zds Try.prog 4 = some [.v (Go.Value.bool false)] := by kernel_rfl
theorem und_4 : Try.prog.underlying 4 = some .bool := by kernel_rfl
theorem apf_4 : apf Try.prog 4 = some (1, 1) := by kernel_rfl
theorem tyc_5 : tyc Try.prog 5 = some (false, 1) := by kernel_rfl
theorem zer_5 : zer Try.prog 5 = some [Go.Value.int Go.IntKind.u8 0] := by kernel_rfl
theorem zds_5 : zds Try.prog 5 = some [.v (Go.Value.int Go.IntKind.u8 0)] := by kernel_rfl
theorem und_5 : Try.prog.underlying 5 = some (.int .u8) := by kernel_rfl
theorem apf_5 : apf Try.prog 5 = some (1, 1) := by kernel_rfl
theorem tyc_6 : tyc Try.prog 6 = some (false, 1) := by kernel_rfl
theorem zer_6 : zer Try.prog 6 = some [Go.Value.int Go.IntKind.u8 0] := by kernel_rfl
theorem zds_6 : zds Try.prog 6 = some [.v (Go.Value.int Go.IntKind.u8 0)] := by kernel_rfl
theorem und_6 : Try.prog.underlying 6 = some (.int .u8) := by kernel_rfl
theorem apf_6 : apf Try.prog 6 = some (1, 1) := by kernel_rfl
theorem tyc_7 : tyc Try.prog 7 = some (true, 4) := by kernel_rfl
theorem zer_7 : zer Try.prog 7 = some [Go.Value.int Go.IntKind.i64 0, Go.Value.int Go.IntKind.i64 0, Go.Value.bool false, Go.Value.int Go.IntKind.u8 0] := by kernel_rfl
theorem zds_7 : zds Try.prog 7 = some [.v (Go.Value.int Go.IntKind.i64 0), .v (Go.Value.int Go.IntKind.i64 0), .v (Go.Value.bool false), .v (Go.Value.int Go.IntKind.u8 0)] := by kernel_rfl
theorem fld_7_0 : fld Try.prog 7 0 = some (0, 2) := by kernel_rfl
theorem fld_7_1 : fld Try.prog 7 1 = some (1, 3) := by kernel_rfl
theorem fld_7_2 : fld Try.prog 7 2 = some (2, 4) := by kernel_rfl
theorem fld_7_3 : fld Try.prog 7 3 = some (3, 6) := by kernel_rfl
theorem stf_7 : stf Try.prog 7 = some [(0, 1), (1, 1), (2, 1), (3, 1)] := by kernel_rfl
theorem arr_7 : arr Try.prog 7 = none := by kernel_rfl
theorem apf_7 : apf Try.prog 7 = some (4, 24) := by kernel_rfl
theorem tyc_8 : tyc Try.prog 8 = some (true, 4) := by kernel_rfl
theorem zer_8 : zer Try.prog 8 = some [Go.Value.int Go.IntKind.i64 0, Go.Value.int Go.IntKind.i64 0, Go.Value.bool false, Go.Value.int Go.IntKind.u8 0] := by kernel_rfl
theorem zds_8 : zds Try.prog 8 = some [.v (Go.Value.int Go.IntKind.i64 0), .v (Go.Value.int Go.IntKind.i64 0), .v (Go.Value.bool false), .v (Go.Value.int Go.IntKind.u8 0)] := by kernel_rfl
theorem fld_8_0 : fld Try.prog 8 0 = some (0, 2) := by kernel_rfl
theorem fld_8_1 : fld Try.prog 8 1 = some (1, 3) := by kernel_rfl
theorem fld_8_2 : fld Try.prog 8 2 = some (2, 4) := by kernel_rfl
theorem fld_8_3 : fld Try.prog 8 3 = some (3, 6) := by kernel_rfl
theorem stf_8 : stf Try.prog 8 = some [(0, 1), (1, 1), (2, 1), (3, 1)] := by kernel_rfl
theorem arr_8 : arr Try.prog 8 = none := by kernel_rfl
theorem apf_8 : apf Try.prog 8 = some (4, 24) := by kernel_rfl
theorem tyc_9 : tyc Try.prog 9 = some (false, 1) := by kernel_rfl
theorem zer_9 : zer Try.prog 9 = some [Go.Value.string { data := #[] }] := by kernel_rfl
theorem zds_9 : zds Try.prog 9 = some [.v (Go.Value.string { data := #[] })] := by kernel_rfl
theorem apf_9 : apf Try.prog 9 = some (1, 16) := by kernel_rfl
theorem tyc_10 : tyc Try.prog 10 = some (false, 1) := by kernel_rfl
theorem zer_10 : zer Try.prog 10 = some [Go.Value.string { data := #[] }] := by kernel_rfl
theorem zds_10 : zds Try.prog 10 = some [.v (Go.Value.string { data := #[] })] := by kernel_rfl
theorem apf_10 : apf Try.prog 10 = some (1, 16) := by kernel_rfl
theorem tyc_11 : tyc Try.prog 11 = some (false, 1) := by kernel_rfl
theorem zer_11 : zer Try.prog 11 = some [Go.Value.string { data := #[] }] := by kernel_rfl
theorem zds_11 : zds Try.prog 11 = some [.v (Go.Value.string { data := #[] })] := by kernel_rfl
theorem apf_11 : apf Try.prog 11 = some (1, 16) := by kernel_rfl
theorem tyc_12 : tyc Try.prog 12 = some (false, 1) := by kernel_rfl
theorem zer_12 : zer Try.prog 12 = some [Go.Value.int Go.IntKind.u64 0] := by kernel_rfl
theorem zds_12 : zds Try.prog 12 = some [.v (Go.Value.int Go.IntKind.u64 0)] := by kernel_rfl
theorem und_12 : Try.prog.underlying 12 = some (.int .u64) := by kernel_rfl
theorem apf_12 : apf Try.prog 12 = some (1, 8) := by kernel_rfl
theorem tyc_13 : tyc Try.prog 13 = some (true, 2) := by kernel_rfl
theorem zer_13 : zer Try.prog 13 = some [Go.Value.string { data := #[] }, Go.Value.int Go.IntKind.u64 0] := by kernel_rfl
theorem zds_13 : zds Try.prog 13 = some [.v (Go.Value.string { data := #[] }), .v (Go.Value.int Go.IntKind.u64 0)] := by kernel_rfl
theorem fld_13_0 : fld Try.prog 13 0 = some (0, 9) := by kernel_rfl
theorem fld_13_1 : fld Try.prog 13 1 = some (1, 12) := by kernel_rfl
theorem stf_13 : stf Try.prog 13 = some [(0, 1), (1, 1)] := by kernel_rfl
theorem arr_13 : arr Try.prog 13 = none := by kernel_rfl
theorem apf_13 : apf Try.prog 13 = some (2, 24) := by kernel_rfl
theorem tyc_14 : tyc Try.prog 14 = some (true, 2) := by kernel_rfl
theorem zer_14 : zer Try.prog 14 = some [Go.Value.string { data := #[] }, Go.Value.int Go.IntKind.u64 0] := by kernel_rfl
theorem zds_14 : zds Try.prog 14 = some [.v (Go.Value.string { data := #[] }), .v (Go.Value.int Go.IntKind.u64 0)] := by kernel_rfl
theorem fld_14_0 : fld Try.prog 14 0 = some (0, 9) := by kernel_rfl
theorem fld_14_1 : fld Try.prog 14 1 = some (1, 12) := by kernel_rfl
theorem stf_14 : stf Try.prog 14 = some [(0, 1), (1, 1)] := by kernel_rfl
theorem arr_14 : arr Try.prog 14 = none := by kernel_rfl
theorem apf_14 : apf Try.prog 14 = some (2, 24) := by kernel_rfl
theorem tyc_15 : tyc Try.prog 15 = some (false, 1) := by kernel_rfl
theorem zer_15 : zer Try.prog 15 = some [Go.Value.pointer none] := by kernel_rfl
theorem zds_15 : zds Try.prog 15 = some [.v (Go.Value.pointer none)] := by kernel_rfl
theorem apf_15 : apf Try.prog 15 = some (1, 8) := by kernel_rfl
theorem tyc_16 : tyc Try.prog 16 = some (false, 1) := by kernel_rfl
theorem zer_16 : zer Try.prog 16 = some [Go.Value.pointer none] := by kernel_rfl
theorem zds_16 : zds Try.prog 16 = some [.v (Go.Value.pointer none)] := by kernel_rfl
theorem apf_16 : apf Try.prog 16 = some (1, 8) := by kernel_rfl
theorem tyc_17 : tyc Try.prog 17 = some (false, 1) := by kernel_rfl
theorem zer_17 : zer Try.prog 17 = some [Go.Value.pointer none] := by kernel_rfl
theorem zds_17 : zds Try.prog 17 = some [.v (Go.Value.pointer none)] := by kernel_rfl
theorem apf_17 : apf Try.prog 17 = some (1, 8) := by kernel_rfl
theorem tyc_18 : tyc Try.prog 18 = some (true, 1) := by kernel_rfl
theorem zer_18 : zer Try.prog 18 = some [Go.Value.pointer none] := by kernel_rfl
theorem zds_18 : zds Try.prog 18 = some [.v (Go.Value.pointer none)] := by kernel_rfl
theorem fld_18_0 : fld Try.prog 18 0 = some (0, 17) := by kernel_rfl
theorem stf_18 : stf Try.prog 18 = some [(0, 1)] := by kernel_rfl
theorem arr_18 : arr Try.prog 18 = none := by kernel_rfl
theorem apf_18 : apf Try.prog 18 = some (1, 8) := by kernel_rfl
theorem tyc_19 : tyc Try.prog 19 = some (true, 1) := by kernel_rfl
theorem zer_19 : zer Try.prog 19 = some [Go.Value.pointer none] := by kernel_rfl
theorem zds_19 : zds Try.prog 19 = some [.v (Go.Value.pointer none)] := by kernel_rfl
theorem fld_19_0 : fld Try.prog 19 0 = some (0, 17) := by kernel_rfl
theorem stf_19 : stf Try.prog 19 = some [(0, 1)] := by kernel_rfl
theorem arr_19 : arr Try.prog 19 = none := by kernel_rfl
theorem apf_19 : apf Try.prog 19 = some (1, 8) := by kernel_rfl
theorem tyc_21 : tyc Try.prog 21 = some (false, 1) := by kernel_rfl
theorem zer_21 : zer Try.prog 21 = some [Go.Value.int Go.IntKind.i32 0] := by kernel_rfl
theorem zds_21 : zds Try.prog 21 = some [.v (Go.Value.int Go.IntKind.i32 0)] := by kernel_rfl
theorem und_21 : Try.prog.underlying 21 = some (.int .i32) := by kernel_rfl
theorem apf_21 : apf Try.prog 21 = some (1, 4) := by kernel_rfl
theorem tyc_22 : tyc Try.prog 22 = some (false, 1) := by kernel_rfl
theorem zer_22 : zer Try.prog 22 = some [Go.Value.slice none 0 0] := by kernel_rfl
theorem zds_22 : zds Try.prog 22 = some [.sl 2 []] := by kernel_rfl
theorem elt_22 : elt Try.prog 22 = some (91, 2) := by kernel_rfl
theorem apf_22 : apf Try.prog 22 = some (1, 24) := by kernel_rfl
theorem tyc_23 : tyc Try.prog 23 = some (true, 3) := by kernel_rfl
theorem zer_23 : zer Try.prog 23 = some [Go.Value.slice none 0 0, Go.Value.int Go.IntKind.u8 0, Go.Value.int Go.IntKind.u8 0] := by kernel_rfl
theorem zds_23 : zds Try.prog 23 = some [.v (Go.Value.slice none 0 0), .v (Go.Value.int Go.IntKind.u8 0), .v (Go.Value.int Go.IntKind.u8 0)] := by kernel_rfl
theorem fld_23_0 : fld Try.prog 23 0 = some (0, 22) := by kernel_rfl
theorem fld_23_1 : fld Try.prog 23 1 = some (1, 5) := by kernel_rfl
theorem fld_23_2 : fld Try.prog 23 2 = some (2, 5) := by kernel_rfl
theorem stf_23 : stf Try.prog 23 = some [(0, 1), (1, 1), (2, 1)] := by kernel_rfl
theorem arr_23 : arr Try.prog 23 = none := by kernel_rfl
theorem apf_23 : apf Try.prog 23 = some (3, 32) := by kernel_rfl
theorem tyc_24 : tyc Try.prog 24 = some (true, 3) := by kernel_rfl
theorem zer_24 : zer Try.prog 24 = some [Go.Value.slice none 0 0, Go.Value.int Go.IntKind.u8 0, Go.Value.int Go.IntKind.u8 0] := by kernel_rfl
theorem zds_24 : zds Try.prog 24 = some [.v (Go.Value.slice none 0 0), .v (Go.Value.int Go.IntKind.u8 0), .v (Go.Value.int Go.IntKind.u8 0)] := by kernel_rfl
theorem fld_24_0 : fld Try.prog 24 0 = some (0, 22) := by kernel_rfl
theorem fld_24_1 : fld Try.prog 24 1 = some (1, 5) := by kernel_rfl
theorem fld_24_2 : fld Try.prog 24 2 = some (2, 5) := by kernel_rfl
theorem stf_24 : stf Try.prog 24 = some [(0, 1), (1, 1), (2, 1)] := by kernel_rfl
theorem arr_24 : arr Try.prog 24 = none := by kernel_rfl
theorem apf_24 : apf Try.prog 24 = some (3, 32) := by kernel_rfl
theorem tyc_25 : tyc Try.prog 25 = some (false, 1) := by kernel_rfl
theorem zer_25 : zer Try.prog 25 = some [Go.Value.int Go.IntKind.u16 0] := by kernel_rfl
theorem zds_25 : zds Try.prog 25 = some [.v (Go.Value.int Go.IntKind.u16 0)] := by kernel_rfl
theorem und_25 : Try.prog.underlying 25 = some (.int .u16) := by kernel_rfl
theorem apf_25 : apf Try.prog 25 = some (1, 2) := by kernel_rfl
theorem tyc_26 : tyc Try.prog 26 = some (true, 3) := by kernel_rfl
theorem zer_26 : zer Try.prog 26 = some [Go.Value.int Go.IntKind.u16 0, Go.Value.int Go.IntKind.u16 0, Go.Value.int Go.IntKind.u16 0] := by kernel_rfl
theorem zds_26 : zds Try.prog 26 = some [.v (Go.Value.int Go.IntKind.u16 0), .v (Go.Value.int Go.IntKind.u16 0), .v (Go.Value.int Go.IntKind.u16 0)] := by kernel_rfl
theorem arr_26 : arr Try.prog 26 = some (3, 25, 1) := by kernel_rfl
theorem stf_26 : stf Try.prog 26 = none := by kernel_rfl
theorem apf_26 : apf Try.prog 26 = some (3, 6) := by kernel_rfl
theorem tyc_27 : tyc Try.prog 27 = some (false, 1) := by kernel_rfl
theorem zer_27 : zer Try.prog 27 = some [Go.Value.slice none 0 0] := by kernel_rfl
theorem zds_27 : zds Try.prog 27 = some [.sl 2 []] := by kernel_rfl
theorem elt_27 : elt Try.prog 27 = some (90, 2) := by kernel_rfl
theorem apf_27 : apf Try.prog 27 = some (1, 24) := by kernel_rfl
theorem tyc_28 : tyc Try.prog 28 = some (true, 3) := by kernel_rfl
theorem zer_28 : zer Try.prog 28 = some [Go.Value.slice none 0 0, Go.Value.int Go.IntKind.i64 0, Go.Value.int Go.IntKind.i64 0] := by kernel_rfl
theorem zds_28 : zds Try.prog 28 = some [.v (Go.Value.slice none 0 0), .v (Go.Value.int Go.IntKind.i64 0), .v (Go.Value.int Go.IntKind.i64 0)] := by kernel_rfl
theorem fld_28_0 : fld Try.prog 28 0 = some (0, 27) := by kernel_rfl
theorem fld_28_1 : fld Try.prog 28 1 = some (1, 3) := by kernel_rfl
theorem fld_28_2 : fld Try.prog 28 2 = some (2, 3) := by kernel_rfl
theorem stf_28 : stf Try.prog 28 = some [(0, 1), (1, 1), (2, 1)] := by kernel_rfl
theorem arr_28 : arr Try.prog 28 = none := by kernel_rfl
theorem apf_28 : apf Try.prog 28 = some (3, 40) := by kernel_rfl
theorem tyc_29 : tyc Try.prog 29 = some (true, 3) := by kernel_rfl
theorem zer_29 : zer Try.prog 29 = some [Go.Value.slice none 0 0, Go.Value.int Go.IntKind.i64 0, Go.Value.int Go.IntKind.i64 0] := by kernel_rfl
theorem zds_29 : zds Try.prog 29 = some [.v (Go.Value.slice none 0 0), .v (Go.Value.int Go.IntKind.i64 0), .v (Go.Value.int Go.IntKind.i64 0)] := by kernel_rfl
theorem fld_29_0 : fld Try.prog 29 0 = some (0, 27) := by kernel_rfl
theorem fld_29_1 : fld Try.prog 29 1 = some (1, 3) := by kernel_rfl
theorem fld_29_2 : fld Try.prog 29 2 = some (2, 3) := by kernel_rfl
theorem stf_29 : stf Try.prog 29 = some [(0, 1), (1, 1), (2, 1)] := by kernel_rfl
theorem arr_29 : arr Try.prog 29 = none := by kernel_rfl
theorem apf_29 : apf Try.prog 29 = some (3, 40) := by kernel_rfl
theorem tyc_30 : tyc Try.prog 30 = some (false, 1) := by kernel_rfl
theorem zer_30 : zer Try.prog 30 = some [Go.Value.nilFunc] := by kernel_rfl
theorem tyc_31 : tyc Try.prog 31 = some (true, 3) := by kernel_rfl
theorem zer_31 : zer Try.prog 31 = some [Go.Value.int Go.IntKind.i64 0, Go.Value.int Go.IntKind.i64 0, Go.Value.int Go.IntKind.i64 0] := by kernel_rfl
theorem zds_31 : zds Try.prog 31 = some [.v (Go.Value.int Go.IntKind.i64 0), .v (Go.Value.int Go.IntKind.i64 0), .v (Go.Value.int Go.IntKind.i64 0)] := by kernel_rfl
theorem fld_31_0 : fld Try.prog 31 0 = some (0, 3) := by kernel_rfl
theorem fld_31_1 : fld Try.prog 31 1 = some (1, 3) := by kernel_rfl
theorem fld_31_2 : fld Try.prog 31 2 = some (2, 3) := by kernel_rfl
theorem stf_31 : stf Try.prog 31 = some [(0, 1), (1, 1), (2, 1)] := by kernel_rfl
theorem arr_31 : arr Try.prog 31 = none := by kernel_rfl
theorem apf_31 : apf Try.prog 31 = some (3, 24) := by kernel_rfl
theorem tyc_32 : tyc Try.prog 32 = some (true, 3) := by kernel_rfl
theorem zer_32 : zer Try.prog 32 = some [Go.Value.int Go.IntKind.i64 0, Go.Value.int Go.IntKind.i64 0, Go.Value.int Go.IntKind.i64 0] := by kernel_rfl
theorem zds_32 : zds Try.prog 32 = some [.v (Go.Value.int Go.IntKind.i64 0), .v (Go.Value.int Go.IntKind.i64 0), .v (Go.Value.int Go.IntKind.i64 0)] := by kernel_rfl
theorem fld_32_0 : fld Try.prog 32 0 = some (0, 3) := by kernel_rfl
theorem fld_32_1 : fld Try.prog 32 1 = some (1, 3) := by kernel_rfl
theorem fld_32_2 : fld Try.prog 32 2 = some (2, 3) := by kernel_rfl
theorem stf_32 : stf Try.prog 32 = some [(0, 1), (1, 1), (2, 1)] := by kernel_rfl
theorem arr_32 : arr Try.prog 32 = none := by kernel_rfl
theorem apf_32 : apf Try.prog 32 = some (3, 24) := by kernel_rfl
theorem tyc_33 : tyc Try.prog 33 = some (false, 1) := by kernel_rfl
theorem zer_33 : zer Try.prog 33 = some [Go.Value.int Go.IntKind.i64 0] := by kernel_rfl
theorem zds_33 : zds Try.prog 33 = some [.v (Go.Value.int Go.IntKind.i64 0)] := by kernel_rfl
theorem und_33 : Try.prog.underlying 33 = some (.int .i64) := by kernel_rfl
theorem apf_33 : apf Try.prog 33 = some (1, 8) := by kernel_rfl
theorem tyc_35 : tyc Try.prog 35 = some (false, 1) := by kernel_rfl
theorem zer_35 : zer Try.prog 35 = some [Go.Value.nilFunc] := by kernel_rfl
theorem tyc_36 : tyc Try.prog 36 = some (false, 1) := by kernel_rfl
theorem zer_36 : zer Try.prog 36 = some [Go.Value.nilFunc] := by kernel_rfl
theorem tyc_37 : tyc Try.prog 37 = some (false, 1) := by kernel_rfl
theorem zer_37 : zer Try.prog 37 = some [Go.Value.nilFunc] := by kernel_rfl
theorem tyc_39 : tyc Try.prog 39 = some (false, 1) := by kernel_rfl
theorem zer_39 : zer Try.prog 39 = some [Go.Value.nilFunc] := by kernel_rfl
theorem tyc_40 : tyc Try.prog 40 = some (false, 1) := by kernel_rfl
theorem zer_40 : zer Try.prog 40 = some [Go.Value.nilFunc] := by kernel_rfl
theorem tyc_41 : tyc Try.prog 41 = some (false, 1) := by kernel_rfl
theorem zer_41 : zer Try.prog 41 = some [Go.Value.nilFunc] := by kernel_rfl
theorem tyc_42 : tyc Try.prog 42 = some (false, 1) := by kernel_rfl
theorem zer_42 : zer Try.prog 42 = some [Go.Value.nilFunc] := by kernel_rfl
theorem tyc_43 : tyc Try.prog 43 = some (false, 1) := by kernel_rfl
theorem zer_43 : zer Try.prog 43 = some [Go.Value.slice none 0 0] := by kernel_rfl
theorem zds_43 : zds Try.prog 43 = some [.sl 1 []] := by kernel_rfl
theorem elt_43 : elt Try.prog 43 = some (5, 1) := by kernel_rfl
theorem apf_43 : apf Try.prog 43 = some (1, 24) := by kernel_rfl
theorem tyc_44 : tyc Try.prog 44 = some (true, 3) := by kernel_rfl
theorem zer_44 : zer Try.prog 44 = some [Go.Value.int Go.IntKind.u8 0, Go.Value.int Go.IntKind.u8 0, Go.Value.int Go.IntKind.u8 0] := by kernel_rfl
theorem zds_44 : zds Try.prog 44 = some [.v (Go.Value.int Go.IntKind.u8 0), .v (Go.Value.int Go.IntKind.u8 0), .v (Go.Value.int Go.IntKind.u8 0)] := by kernel_rfl
theorem arr_44 : arr Try.prog 44 = some (3, 5, 1) := by kernel_rfl
theorem stf_44 : stf Try.prog 44 = none := by kernel_rfl
theorem apf_44 : apf Try.prog 44 = some (3, 3) := by kernel_rfl
theorem tyc_45 : tyc Try.prog 45 = some (false, 1) := by kernel_rfl
theorem zer_45 : zer Try.prog 45 = some [Go.Value.slice none 0 0] := by kernel_rfl
theorem zds_45 : zds Try.prog 45 = some [.sl 1 []] := by kernel_rfl
theorem elt_45 : elt Try.prog 45 = some (3, 1) := by kernel_rfl
theorem apf_45 : apf Try.prog 45 = some (1, 24) := by kernel_rfl
theorem tyc_47 : tyc Try.prog 47 = some (false, 1) := by kernel_rfl
theorem zer_47 : zer Try.prog 47 = some [Go.Value.nilFunc] := by kernel_rfl
theorem tyc_48 : tyc Try.prog 48 = some (false, 1) := by kernel_rfl
theorem zer_48 : zer Try.prog 48 = some [Go.Value.nilFunc] := by kernel_rfl
theorem tyc_49 : tyc Try.prog 49 = some (true, 1) := by kernel_rfl
theorem zer_49 : zer Try.prog 49 = some [Go.Value.slice none 0 0] := by kernel_rfl
theorem zds_49 : zds Try.prog 49 = some [.v (Go.Value.slice none 0 0)] := by kernel_rfl
theorem fld_49_0 : fld Try.prog 49 0 = some (0, 22) := by kernel_rfl
theorem stf_49 : stf Try.prog 49 = some [(0, 1)] := by kernel_rfl
theorem arr_49 : arr Try.prog 49 = none := by kernel_rfl
theorem apf_49 : apf Try.prog 49 = some (1, 24) := by kernel_rfl
theorem tyc_50 : tyc Try.prog 50 = some (true, 1) := by kernel_rfl
theorem zer_50 : zer Try.prog 50 = some [Go.Value.slice none 0 0] := by kernel_rfl
theorem zds_50 : zds Try.prog 50 = some [.v (Go.Value.slice none 0 0)] := by kernel_rfl
theorem fld_50_0 : fld Try.prog 50 0 = some (0, 22) := by kernel_rfl
theorem stf_50 : stf Try.prog 50 = some [(0, 1)] := by kernel_rfl
theorem arr_50 : arr Try.prog 50 = none := by kernel_rfl
theorem apf_50 : apf Try.prog 50 = some (1, 24) := by kernel_rfl
theorem tyc_51 : tyc Try.prog 51 = some (true, 2) := by kernel_rfl
theorem zer_51 : zer Try.prog 51 = some [Go.Value.int Go.IntKind.u16 0, Go.Value.int Go.IntKind.u16 0] := by kernel_rfl
theorem zds_51 : zds Try.prog 51 = some [.v (Go.Value.int Go.IntKind.u16 0), .v (Go.Value.int Go.IntKind.u16 0)] := by kernel_rfl
theorem arr_51 : arr Try.prog 51 = some (2, 25, 1) := by kernel_rfl
theorem stf_51 : stf Try.prog 51 = none := by kernel_rfl
theorem apf_51 : apf Try.prog 51 = some (2, 4) := by kernel_rfl
theorem tyc_52 : tyc Try.prog 52 = some (false, 1) := by kernel_rfl
theorem zer_52 : zer Try.prog 52 = some [Go.Value.slice none 0 0] := by kernel_rfl
theorem zds_52 : zds Try.prog 52 = some [.sl 3 []] := by kernel_rfl
theorem elt_52 : elt Try.prog 52 = some (87, 3) := by kernel_rfl
theorem apf_52 : apf Try.prog 52 = some (1, 24) := by kernel_rfl
theorem tyc_53 : tyc Try.prog 53 = some (true, 2) := by kernel_rfl
theorem zer_53 : zer Try.prog 53 = some [Go.Value.slice none 0 0, Go.Value.int Go.IntKind.i64 0] := by kernel_rfl
theorem zds_53 : zds Try.prog 53 = some [.v (Go.Value.slice none 0 0), .v (Go.Value.int Go.IntKind.i64 0)] := by kernel_rfl
theorem fld_53_0 : fld Try.prog 53 0 = some (0, 52) := by kernel_rfl
theorem fld_53_1 : fld Try.prog 53 1 = some (1, 3) := by kernel_rfl
theorem stf_53 : stf Try.prog 53 = some [(0, 1), (1, 1)] := by kernel_rfl
theorem arr_53 : arr Try.prog 53 = none := by kernel_rfl
theorem apf_53 : apf Try.prog 53 = some (2, 32) := by kernel_rfl
theorem tyc_54 : tyc Try.prog 54 = some (true, 2) := by kernel_rfl
theorem zer_54 : zer Try.prog 54 = some [Go.Value.slice none 0 0, Go.Value.int Go.IntKind.i64 0] := by kernel_rfl
theorem zds_54 : zds Try.prog 54 = some [.v (Go.Value.slice none 0 0), .v (Go.Value.int Go.IntKind.i64 0)] := by kernel_rfl
theorem fld_54_0 : fld Try.prog 54 0 = some (0, 52) := by kernel_rfl
theorem fld_54_1 : fld Try.prog 54 1 = some (1, 3) := by kernel_rfl
theorem stf_54 : stf Try.prog 54 = some [(0, 1), (1, 1)] := by kernel_rfl
theorem arr_54 : arr Try.prog 54 = none := by kernel_rfl
theorem apf_54 : apf Try.prog 54 = some (2, 32) := by kernel_rfl
theorem tyc_55 : tyc Try.prog 55 = some (false, 1) := by kernel_rfl
theorem zer_55 : zer Try.prog 55 = some [Go.Value.nilFunc] := by kernel_rfl
theorem tyc_56 : tyc Try.prog 56 = some (false, 1) := by kernel_rfl
theorem zer_56 : zer Try.prog 56 = some [Go.Value.nilFunc] := by kernel_rfl
theorem tyc_57 : tyc Try.prog 57 = some (false, 1) := by kernel_rfl
theorem zer_57 : zer Try.prog 57 = some [Go.Value.nilFunc] := by kernel_rfl
theorem tyc_58 : tyc Try.prog 58 = some (false, 1) := by kernel_rfl
theorem zer_58 : zer Try.prog 58 = some [Go.Value.pointer none] := by kernel_rfl
theorem zds_58 : zds Try.prog 58 = some [.v (Go.Value.pointer none)] := by kernel_rfl
theorem apf_58 : apf Try.prog 58 = some (1, 8) := by kernel_rfl
theorem tyc_59 : tyc Try.prog 59 = some (false, 1) := by kernel_rfl
theorem zer_59 : zer Try.prog 59 = some [Go.Value.nilFunc] := by kernel_rfl
theorem tyc_60 : tyc Try.prog 60 = some (false, 1) := by kernel_rfl
theorem zer_60 : zer Try.prog 60 = some [Go.Value.pointer none] := by kernel_rfl
theorem zds_60 : zds Try.prog 60 = some [.v (Go.Value.pointer none)] := by kernel_rfl
theorem apf_60 : apf Try.prog 60 = some (1, 8) := by kernel_rfl
theorem tyc_61 : tyc Try.prog 61 = some (false, 1) := by kernel_rfl
theorem zer_61 : zer Try.prog 61 = some [Go.Value.nilFunc] := by kernel_rfl
theorem tyc_62 : tyc Try.prog 62 = some (false, 1) := by kernel_rfl
theorem zer_62 : zer Try.prog 62 = some [Go.Value.slice none 0 0] := by kernel_rfl
theorem zds_62 : zds Try.prog 62 = some [.sl 3 []] := by kernel_rfl
theorem elt_62 : elt Try.prog 62 = some (73, 3) := by kernel_rfl
theorem apf_62 : apf Try.prog 62 = some (1, 24) := by kernel_rfl
theorem tyc_64 : tyc Try.prog 64 = some (false, 1) := by kernel_rfl
theorem zer_64 : zer Try.prog 64 = some [Go.Value.nilFunc] := by kernel_rfl
theorem tyc_65 : tyc Try.prog 65 = some (false, 1) := by kernel_rfl
theorem zer_65 : zer Try.prog 65 = some [Go.Value.slice none 0 0] := by kernel_rfl
theorem zds_65 : zds Try.prog 65 = some [.sl 2 []] := by kernel_rfl
theorem elt_65 : elt Try.prog 65 = some (71, 2) := by kernel_rfl
theorem apf_65 : apf Try.prog 65 = some (1, 24) := by kernel_rfl
theorem tyc_67 : tyc Try.prog 67 = some (false, 1) := by kernel_rfl
theorem zer_67 : zer Try.prog 67 = some [Go.Value.nilFunc] := by kernel_rfl
theorem tyc_68 : tyc Try.prog 68 = some (false, 1) := by kernel_rfl
theorem zer_68 : zer Try.prog 68 = some [Go.Value.nilFunc] := by kernel_rfl
theorem tyc_69 : tyc Try.prog 69 = some (false, 1) := by kernel_rfl
theorem zer_69 : zer Try.prog 69 = some [Go.Value.int Go.IntKind.i64 0] := by kernel_rfl
theorem zds_69 : zds Try.prog 69 = some [.v (Go.Value.int Go.IntKind.i64 0)] := by kernel_rfl
theorem und_69 : Try.prog.underlying 69 = some (.int .i64) := by kernel_rfl
theorem apf_69 : apf Try.prog 69 = some (1, 8) := by kernel_rfl
theorem tyc_70 : tyc Try.prog 70 = some (true, 2) := by kernel_rfl
theorem zer_70 : zer Try.prog 70 = some [Go.Value.int Go.IntKind.i64 0, Go.Value.int Go.IntKind.i64 0] := by kernel_rfl
theorem zds_70 : zds Try.prog 70 = some [.v (Go.Value.int Go.IntKind.i64 0), .v (Go.Value.int Go.IntKind.i64 0)] := by kernel_rfl
theorem fld_70_0 : fld Try.prog 70 0 = some (0, 3) := by kernel_rfl
theorem fld_70_1 : fld Try.prog 70 1 = some (1, 69) := by kernel_rfl
theorem stf_70 : stf Try.prog 70 = some [(0, 1), (1, 1)] := by kernel_rfl
theorem arr_70 : arr Try.prog 70 = none := by kernel_rfl
theorem apf_70 : apf Try.prog 70 = some (2, 16) := by kernel_rfl
theorem tyc_71 : tyc Try.prog 71 = some (true, 2) := by kernel_rfl
theorem zer_71 : zer Try.prog 71 = some [Go.Value.int Go.IntKind.i64 0, Go.Value.int Go.IntKind.i64 0] := by kernel_rfl
theorem zds_71 : zds Try.prog 71 = some [.v (Go.Value.int Go.IntKind.i64 0), .v (Go.Value.int Go.IntKind.i64 0)] := by kernel_rfl
theorem fld_71_0 : fld Try.prog 71 0 = some (0, 3) := by kernel_rfl
theorem fld_71_1 : fld Try.prog 71 1 = some (1, 69) := by kernel_rfl
theorem stf_71 : stf Try.prog 71 = some [(0, 1), (1, 1)] := by kernel_rfl
theorem arr_71 : arr Try.prog 71 = none := by kernel_rfl
theorem apf_71 : apf Try.prog 71 = some (2, 16) := by kernel_rfl
theorem tyc_72 : tyc Try.prog 72 = some (true, 3) := by kernel_rfl
theorem zer_72 : zer Try.prog 72 = some [Go.Value.int Go.IntKind.i64 0, Go.Value.int Go.IntKind.i64 0, Go.Value.int Go.IntKind.i64 0] := by kernel_rfl
theorem zds_72 : zds Try.prog 72 = some [.v (Go.Value.int Go.IntKind.i64 0), .v (Go.Value.int Go.IntKind.i64 0), .v (Go.Value.int Go.IntKind.i64 0)] := by kernel_rfl
theorem fld_72_0 : fld Try.prog 72 0 = some (0, 71) := by kernel_rfl
theorem fld_72_1 : fld Try.prog 72 1 = some (2, 3) := by kernel_rfl
theorem stf_72 : stf Try.prog 72 = some [(0, 2), (2, 1)] := by kernel_rfl
theorem arr_72 : arr Try.prog 72 = none := by kernel_rfl
theorem apf_72 : apf Try.prog 72 = some (3, 24) := by kernel_rfl
theorem tyc_73 : tyc Try.prog 73 = some (true, 3) := by kernel_rfl
theorem zer_73 : zer Try.prog 73 = some [Go.Value.int Go.IntKind.i64 0, Go.Value.int Go.IntKind.i64 0, Go.Value.int Go.IntKind.i64 0] := by kernel_rfl
theorem zds_73 : zds Try.prog 73 = some [.v (Go.Value.int Go.IntKind.i64 0), .v (Go.Value.int Go.IntKind.i64 0), .v (Go.Value.int Go.IntKind.i64 0)] := by kernel_rfl
theorem fld_73_0 : fld Try.prog 73 0 = some (0, 71) := by kernel_rfl
theorem fld_73_1 : fld Try.prog 73 1 = some (2, 3) := by kernel_rfl
theorem stf_73 : stf Try.prog 73 = some [(0, 2), (2, 1)] := by kernel_rfl
theorem arr_73 : arr Try.prog 73 = none := by kernel_rfl
theorem apf_73 : apf Try.prog 73 = some (3, 24) := by kernel_rfl
theorem tyc_74 : tyc Try.prog 74 = some (false, 1) := by kernel_rfl
theorem zer_74 : zer Try.prog 74 = some [Go.Value.nilFunc] := by kernel_rfl
theorem tyc_75 : tyc Try.prog 75 = some (false, 1) := by kernel_rfl
theorem zer_75 : zer Try.prog 75 = some [Go.Value.nilFunc] := by kernel_rfl
theorem tyc_76 : tyc Try.prog 76 = some (false, 1) := by kernel_rfl
theorem zer_76 : zer Try.prog 76 = some [Go.Value.nilFunc] := by kernel_rfl
theorem tyc_77 : tyc Try.prog 77 = some (false, 1) := by kernel_rfl
theorem zer_77 : zer Try.prog 77 = some [Go.Value.slice none 0 0] := by kernel_rfl
theorem zds_77 : zds Try.prog 77 = some [.sl 1 []] := by kernel_rfl
theorem elt_77 : elt Try.prog 77 = some (4, 1) := by kernel_rfl
theorem apf_77 : apf Try.prog 77 = some (1, 24) := by kernel_rfl
theorem tyc_78 : tyc Try.prog 78 = some (false, 1) := by kernel_rfl
theorem zer_78 : zer Try.prog 78 = some [Go.Value.slice none 0 0] := by kernel_rfl
theorem zds_78 : zds Try.prog 78 = some [.sl 2 []] := by kernel_rfl
theorem elt_78 : elt Try.prog 78 = some (82, 2) := by kernel_rfl
theorem apf_78 : apf Try.prog 78 = some (1, 24) := by kernel_rfl
theorem tyc_80 : tyc Try.prog 80 = some (false, 1) := by kernel_rfl
theorem zer_80 : zer Try.prog 80 = some [Go.Value.nilFunc] := by kernel_rfl
theorem tyc_81 : tyc Try.prog 81 = some (true, 2) := by kernel_rfl
theorem zer_81 : zer Try.prog 81 = some [Go.Value.int Go.IntKind.i64 0, Go.Value.int Go.IntKind.i64 0] := by kernel_rfl
theorem zds_81 : zds Try.prog 81 = some [.v (Go.Value.int Go.IntKind.i64 0), .v (Go.Value.int Go.IntKind.i64 0)] := by kernel_rfl
theorem fld_81_0 : fld Try.prog 81 0 = some (0, 3) := by kernel_rfl
theorem fld_81_1 : fld Try.prog 81 1 = some (1, 3) := by kernel_rfl
theorem stf_81 : stf Try.prog 81 = some [(0, 1), (1, 1)] := by kernel_rfl
theorem arr_81 : arr Try.prog 81 = none := by kernel_rfl
theorem apf_81 : apf Try.prog 81 = some (2, 16) := by kernel_rfl
theorem tyc_82 : tyc Try.prog 82 = some (true, 2) := by kernel_rfl
theorem zer_82 : zer Try.prog 82 = some [Go.Value.int Go.IntKind.i64 0, Go.Value.int Go.IntKind.i64 0] := by kernel_rfl
theorem zds_82 : zds Try.prog 82 = some [.v (Go.Value.int Go.IntKind.i64 0), .v (Go.Value.int Go.IntKind.i64 0)] := by kernel_rfl
theorem fld_82_0 : fld Try.prog 82 0 = some (0, 3) := by kernel_rfl
theorem fld_82_1 : fld Try.prog 82 1 = some (1, 3) := by kernel_rfl
theorem stf_82 : stf Try.prog 82 = some [(0, 1), (1, 1)] := by kernel_rfl
theorem arr_82 : arr Try.prog 82 = none := by kernel_rfl
theorem apf_82 : apf Try.prog 82 = some (2, 16) := by kernel_rfl
theorem tyc_83 : tyc Try.prog 83 = some (true, 3) := by kernel_rfl
theorem zer_83 : zer Try.prog 83 = some [Go.Value.int Go.IntKind.i64 0, Go.Value.int Go.IntKind.i64 0, Go.Value.int Go.IntKind.i64 0] := by kernel_rfl
theorem zds_83 : zds Try.prog 83 = some [.v (Go.Value.int Go.IntKind.i64 0), .v (Go.Value.int Go.IntKind.i64 0), .v (Go.Value.int Go.IntKind.i64 0)] := by kernel_rfl
theorem arr_83 : arr Try.prog 83 = some (3, 3, 1) := by kernel_rfl
theorem stf_83 : stf Try.prog 83 = none := by kernel_rfl
theorem apf_83 : apf Try.prog 83 = some (3, 24) := by kernel_rfl
theorem tyc_84 : tyc Try.prog 84 = some (false, 1) := by kernel_rfl
theorem zer_84 : zer Try.prog 84 = some [Go.Value.nilFunc] := by kernel_rfl
theorem tyc_85 : tyc Try.prog 85 = some (false, 1) := by kernel_rfl
theorem zer_85 : zer Try.prog 85 = some [Go.Value.slice none 0 0] := by kernel_rfl
theorem zds_85 : zds Try.prog 85 = some [.sl 2 []] := by kernel_rfl
theorem elt_85 : elt Try.prog 85 = some (51, 2) := by kernel_rfl
theorem apf_85 : apf Try.prog 85 = some (1, 24) := by kernel_rfl
theorem tyc_86 : tyc Try.prog 86 = some (true, 3) := by kernel_rfl
theorem zer_86 : zer Try.prog 86 = some [Go.Value.int Go.IntKind.i64 0, Go.Value.int Go.IntKind.i64 0, Go.Value.int Go.IntKind.i64 0] := by kernel_rfl
theorem zds_86 : zds Try.prog 86 = some [.v (Go.Value.int Go.IntKind.i64 0), .v (Go.Value.int Go.IntKind.i64 0), .v (Go.Value.int Go.IntKind.i64 0)] := by kernel_rfl
theorem fld_86_0 : fld Try.prog 86 0 = some (0, 3) := by kernel_rfl
theorem fld_86_1 : fld Try.prog 86 1 = some (1, 3) := by kernel_rfl
theorem fld_86_2 : fld Try.prog 86 2 = some (2, 3) := by kernel_rfl
theorem stf_86 : stf Try.prog 86 = some [(0, 1), (1, 1), (2, 1)] := by kernel_rfl
theorem arr_86 : arr Try.prog 86 = none := by kernel_rfl
theorem apf_86 : apf Try.prog 86 = some (3, 24) := by kernel_rfl
theorem tyc_87 : tyc Try.prog 87 = some (true, 3) := by kernel_rfl
theorem zer_87 : zer Try.prog 87 = some [Go.Value.int Go.IntKind.i64 0, Go.Value.int Go.IntKind.i64 0, Go.Value.int Go.IntKind.i64 0] := by kernel_rfl
theorem zds_87 : zds Try.prog 87 = some [.v (Go.Value.int Go.IntKind.i64 0), .v (Go.Value.int Go.IntKind.i64 0), .v (Go.Value.int Go.IntKind.i64 0)] := by kernel_rfl
theorem fld_87_0 : fld Try.prog 87 0 = some (0, 3) := by kernel_rfl
theorem fld_87_1 : fld Try.prog 87 1 = some (1, 3) := by kernel_rfl
theorem fld_87_2 : fld Try.prog 87 2 = some (2, 3) := by kernel_rfl
theorem stf_87 : stf Try.prog 87 = some [(0, 1), (1, 1), (2, 1)] := by kernel_rfl
theorem arr_87 : arr Try.prog 87 = none := by kernel_rfl
theorem apf_87 : apf Try.prog 87 = some (3, 24) := by kernel_rfl
theorem tyc_88 : tyc Try.prog 88 = some (false, 1) := by kernel_rfl
theorem zer_88 : zer Try.prog 88 = some [Go.Value.nilFunc] := by kernel_rfl
theorem tyc_89 : tyc Try.prog 89 = some (true, 2) := by kernel_rfl
theorem zer_89 : zer Try.prog 89 = some [Go.Value.int Go.IntKind.i64 0, Go.Value.int Go.IntKind.i64 0] := by kernel_rfl
theorem zds_89 : zds Try.prog 89 = some [.v (Go.Value.int Go.IntKind.i64 0), .v (Go.Value.int Go.IntKind.i64 0)] := by kernel_rfl
theorem fld_89_0 : fld Try.prog 89 0 = some (0, 3) := by kernel_rfl
theorem fld_89_1 : fld Try.prog 89 1 = some (1, 3) := by kernel_rfl
theorem stf_89 : stf Try.prog 89 = some [(0, 1), (1, 1)] := by kernel_rfl
theorem arr_89 : arr Try.prog 89 = none := by kernel_rfl
theorem apf_89 : apf Try.prog 89 = some (2, 16) := by kernel_rfl
theorem tyc_90 : tyc Try.prog 90 = some (true, 2) := by kernel_rfl
theorem zer_90 : zer Try.prog 90 = some [Go.Value.int Go.IntKind.i64 0, Go.Value.int Go.IntKind.i64 0] := by kernel_rfl
theorem zds_90 : zds Try.prog 90 = some [.v (Go.Value.int Go.IntKind.i64 0), .v (Go.Value.int Go.IntKind.i64 0)] := by kernel_rfl
theorem fld_90_0 : fld Try.prog 90 0 = some (0, 3) := by kernel_rfl
theorem fld_90_1 : fld Try.prog 90 1 = some (1, 3) := by kernel_rfl
theorem stf_90 : stf Try.prog 90 = some [(0, 1), (1, 1)] := by kernel_rfl
theorem arr_90 : arr Try.prog 90 = none := by kernel_rfl
theorem apf_90 : apf Try.prog 90 = some (2, 16) := by kernel_rfl
theorem tyc_91 : tyc Try.prog 91 = some (true, 2) := by kernel_rfl
theorem zer_91 : zer Try.prog 91 = some [Go.Value.int Go.IntKind.u8 0, Go.Value.int Go.IntKind.u8 0] := by kernel_rfl
theorem zds_91 : zds Try.prog 91 = some [.v (Go.Value.int Go.IntKind.u8 0), .v (Go.Value.int Go.IntKind.u8 0)] := by kernel_rfl
theorem arr_91 : arr Try.prog 91 = some (2, 5, 1) := by kernel_rfl
theorem stf_91 : stf Try.prog 91 = none := by kernel_rfl
theorem apf_91 : apf Try.prog 91 = some (2, 2) := by kernel_rfl
theorem tyc_92 : tyc Try.prog 92 = some (true, 3) := by kernel_rfl
theorem zer_92 : zer Try.prog 92 = some [Go.Value.slice none 0 0, Go.Value.int Go.IntKind.i64 0, Go.Value.int Go.IntKind.i64 0] := by kernel_rfl
theorem zds_92 : zds Try.prog 92 = some [.v (Go.Value.slice none 0 0), .v (Go.Value.int Go.IntKind.i64 0), .v (Go.Value.int Go.IntKind.i64 0)] := by kernel_rfl
theorem fld_92_0 : fld Try.prog 92 0 = some (0, 29) := by kernel_rfl
theorem stf_92 : stf Try.prog 92 = some [(0, 3)] := by kernel_rfl
theorem arr_92 : arr Try.prog 92 = none := by kernel_rfl
theorem apf_92 : apf Try.prog 92 = some (3, 40) := by kernel_rfl
theorem tyc_93 : tyc Try.prog 93 = some (true, 3) := by kernel_rfl
theorem zer_93 : zer Try.prog 93 = some [Go.Value.slice none 0 0, Go.Value.int Go.IntKind.i64 0, Go.Value.int Go.IntKind.i64 0] := by kernel_rfl
theorem zds_93 : zds Try.prog 93 = some [.v (Go.Value.slice none 0 0), .v (Go.Value.int Go.IntKind.i64 0), .v (Go.Value.int Go.IntKind.i64 0)] := by kernel_rfl
theorem fld_93_0 : fld Try.prog 93 0 = some (0, 29) := by kernel_rfl
theorem stf_93 : stf Try.prog 93 = some [(0, 3)] := by kernel_rfl
theorem arr_93 : arr Try.prog 93 = none := by kernel_rfl
theorem apf_93 : apf Try.prog 93 = some (3, 40) := by kernel_rfl
theorem tyc_95 : tyc Try.prog 95 = some (false, 1) := by kernel_rfl
theorem zer_95 : zer Try.prog 95 = some [Go.Value.nilFunc] := by kernel_rfl
theorem tyc_96 : tyc Try.prog 96 = some (false, 1) := by kernel_rfl
theorem zer_96 : zer Try.prog 96 = some [Go.Value.nilFunc] := by kernel_rfl
theorem tyc_97 : tyc Try.prog 97 = some (false, 1) := by kernel_rfl
theorem zer_97 : zer Try.prog 97 = some [Go.Value.nilFunc] := by kernel_rfl
theorem tyc_98 : tyc Try.prog 98 = some (false, 1) := by kernel_rfl
theorem zer_98 : zer Try.prog 98 = some [Go.Value.nilFunc] := by kernel_rfl
theorem tyc_99 : tyc Try.prog 99 = some (false, 1) := by kernel_rfl
theorem zer_99 : zer Try.prog 99 = some [Go.Value.nilFunc] := by kernel_rfl
theorem tyc_100 : tyc Try.prog 100 = some (false, 1) := by kernel_rfl
theorem zer_100 : zer Try.prog 100 = some [Go.Value.nilFunc] := by kernel_rfl
theorem tyc_101 : tyc Try.prog 101 = some (false, 1) := by kernel_rfl
theorem zer_101 : zer Try.prog 101 = some [Go.Value.nilFunc] := by kernel_rfl
theorem tyc_102 : tyc Try.prog 102 = some (false, 1) := by kernel_rfl
theorem zer_102 : zer Try.prog 102 = some [Go.Value.nilFunc] := by kernel_rfl
theorem tyc_103 : tyc Try.prog 103 = some (false, 1) := by kernel_rfl
theorem zer_103 : zer Try.prog 103 = some [Go.Value.pointer none] := by kernel_rfl
theorem zds_103 : zds Try.prog 103 = some [.v (Go.Value.pointer none)] := by kernel_rfl
theorem apf_103 : apf Try.prog 103 = some (1, 8) := by kernel_rfl
theorem tyc_104 : tyc Try.prog 104 = some (true, 3) := by kernel_rfl
theorem zer_104 : zer Try.prog 104 = some [Go.Value.pointer none, Go.Value.pointer none, Go.Value.pointer none] := by kernel_rfl
theorem zds_104 : zds Try.prog 104 = some [.v (Go.Value.pointer none), .v (Go.Value.pointer none), .v (Go.Value.pointer none)] := by kernel_rfl
theorem arr_104 : arr Try.prog 104 = some (3, 58, 1) := by kernel_rfl
theorem stf_104 : stf Try.prog 104 = none := by kernel_rfl
theorem apf_104 : apf Try.prog 104 = some (3, 24) := by kernel_rfl
theorem tyc_105 : tyc Try.prog 105 = some (false, 1) := by kernel_rfl
theorem zer_105 : zer Try.prog 105 = some [Go.Value.pointer none] := by kernel_rfl
theorem zds_105 : zds Try.prog 105 = some [.v (Go.Value.pointer none)] := by kernel_rfl
theorem apf_105 : apf Try.prog 105 = some (1, 8) := by kernel_rfl
theorem tyc_107 : tyc Try.prog 107 = some (false, 1) := by kernel_rfl
theorem zer_107 : zer Try.prog 107 = some [Go.Value.nilFunc] := by kernel_rfl
theorem tyc_108 : tyc Try.prog 108 = some (false, 1) := by kernel_rfl
theorem zer_108 : zer Try.prog 108 = some [Go.Value.nilFunc] := by kernel_rfl
theorem tyc_109 : tyc Try.prog 109 = some (false, 1) := by kernel_rfl
theorem zer_109 : zer Try.prog 109 = some [Go.Value.nilFunc] := by kernel_rfl
theorem tyc_110 : tyc Try.prog 110 = some (true, 3) := by kernel_rfl
theorem zer_110 : zer Try.prog 110 = some [Go.Value.int Go.IntKind.i64 0, Go.Value.int Go.IntKind.i64 0, Go.Value.pointer none] := by kernel_rfl
theorem zds_110 : zds Try.prog 110 = some [.v (Go.Value.int Go.IntKind.i64 0), .v (Go.Value.int Go.IntKind.i64 0), .v (Go.Value.pointer none)] := by kernel_rfl
theorem fld_110_0 : fld Try.prog 110 0 = some (0, 71) := by kernel_rfl
theorem fld_110_1 : fld Try.prog 110 1 = some (2, 58) := by kernel_rfl
theorem stf_110 : stf Try.prog 110 = some [(0, 2), (2, 1)] := by kernel_rfl
theorem arr_110 : arr Try.prog 110 = none := by kernel_rfl
theorem apf_110 : apf Try.prog 110 = some (3, 24) := by kernel_rfl
theorem tyc_111 : tyc Try.prog 111 = some (true, 3) := by kernel_rfl
theorem zer_111 : zer Try.prog 111 = some [Go.Value.int Go.IntKind.i64 0, Go.Value.int Go.IntKind.i64 0, Go.Value.pointer none] := by kernel_rfl
theorem zds_111 : zds Try.prog 111 = some [.v (Go.Value.int Go.IntKind.i64 0), .v (Go.Value.int Go.IntKind.i64 0), .v (Go.Value.pointer none)] := by kernel_rfl
theorem fld_111_0 : fld Try.prog 111 0 = some (0, 71) := by kernel_rfl
theorem fld_111_1 : fld Try.prog 111 1 = some (2, 58) := by kernel_rfl
theorem stf_111 : stf Try.prog 111 = some [(0, 2), (2, 1)] := by kernel_rfl
theorem arr_111 : arr Try.prog 111 = none := by kernel_rfl
theorem apf_111 : apf Try.prog 111 = some (3, 24) := by kernel_rfl
theorem tyc_112 : tyc Try.prog 112 = some (false, 1) := by kernel_rfl
theorem zer_112 : zer Try.prog 112 = some [Go.Value.nilFunc] := by kernel_rfl
theorem tyc_113 : tyc Try.prog 113 = some (true, 2) := by kernel_rfl
theorem zer_113 : zer Try.prog 113 = some [Go.Value.slice none 0 0, Go.Value.int Go.IntKind.i64 0] := by kernel_rfl
theorem zds_113 : zds Try.prog 113 = some [.v (Go.Value.slice none 0 0), .v (Go.Value.int Go.IntKind.i64 0)] := by kernel_rfl
theorem fld_113_0 : fld Try.prog 113 0 = some (0, 54) := by kernel_rfl
theorem stf_113 : stf Try.prog 113 = some [(0, 2)] := by kernel_rfl
theorem arr_113 : arr Try.prog 113 = none := by kernel_rfl
theorem apf_113 : apf Try.prog 113 = some (2, 32) := by kernel_rfl
theorem tyc_114 : tyc Try.prog 114 = some (true, 2) := by kernel_rfl
theorem zer_114 : zer Try.prog 114 = some [Go.Value.slice none 0 0, Go.Value.int Go.IntKind.i64 0] := by kernel_rfl
theorem zds_114 : zds Try.prog 114 = some [.v (Go.Value.slice none 0 0), .v (Go.Value.int Go.IntKind.i64 0)] := by kernel_rfl
theorem fld_114_0 : fld Try.prog 114 0 = some (0, 54) := by kernel_rfl
theorem stf_114 : stf Try.prog 114 = some [(0, 2)] := by kernel_rfl
theorem arr_114 : arr Try.prog 114 = none := by kernel_rfl
theorem apf_114 : apf Try.prog 114 = some (2, 32) := by kernel_rfl
theorem tyc_116 : tyc Try.prog 116 = some (false, 1) := by kernel_rfl
theorem zer_116 : zer Try.prog 116 = some [Go.Value.nilFunc] := by kernel_rfl
theorem tyc_117 : tyc Try.prog 117 = some (false, 1) := by kernel_rfl
theorem zer_117 : zer Try.prog 117 = some [Go.Value.nilFunc] := by kernel_rfl
theorem tyc_118 : tyc Try.prog 118 = some (false, 1) := by kernel_rfl
theorem zer_118 : zer Try.prog 118 = some [Go.Value.nilFunc] := by kernel_rfl
theorem tyc_119 : tyc Try.prog 119 = some (false, 1) := by kernel_rfl
theorem zer_119 : zer Try.prog 119 = some [Go.Value.nilFunc] := by kernel_rfl
theorem tyc_120 : tyc Try.prog 120 = some (false, 1) := by kernel_rfl
theorem zer_120 : zer Try.prog 120 = some [Go.Value.nilFunc] := by kernel_rfl
theorem tyc_121 : tyc Try.prog 121 = some (false, 1) := by kernel_rfl
theorem zer_121 : zer Try.prog 121 = some [Go.Value.nilFunc] := by kernel_rfl
theorem tyc_122 : tyc Try.prog 122 = some (false, 1) := by kernel_rfl
theorem zer_122 : zer Try.prog 122 = some [Go.Value.map none] := by kernel_rfl
theorem zds_122 : zds Try.prog 122 = some [.v (Go.Value.map none)] := by kernel_rfl
theorem mpt_122 : mpt Try.prog 122 = some (.i64, 4) := by kernel_rfl
theorem apf_122 : apf Try.prog 122 = some (1, 8) := by kernel_rfl
theorem tyc_123 : tyc Try.prog 123 = some (false, 1) := by kernel_rfl
theorem zer_123 : zer Try.prog 123 = some [Go.Value.map none] := by kernel_rfl
theorem zds_123 : zds Try.prog 123 = some [.v (Go.Value.map none)] := by kernel_rfl
theorem mpt_123 : mpt Try.prog 123 = some (.i64, 4) := by kernel_rfl
theorem apf_123 : apf Try.prog 123 = some (1, 8) := by kernel_rfl
theorem tyc_124 : tyc Try.prog 124 = some (false, 1) := by kernel_rfl
theorem zer_124 : zer Try.prog 124 = some [Go.Value.nilFunc] := by kernel_rfl
theorem tyc_125 : tyc Try.prog 125 = some (true, 3) := by kernel_rfl
theorem zer_125 : zer Try.prog 125 = some [Go.Value.map none, Go.Value.map none, Go.Value.map none] := by kernel_rfl
theorem zds_125 : zds Try.prog 125 = some [.v (Go.Value.map none), .v (Go.Value.map none), .v (Go.Value.map none)] := by kernel_rfl
theorem arr_125 : arr Try.prog 125 = some (3, 123, 1) := by kernel_rfl
theorem stf_125 : stf Try.prog 125 = none := by kernel_rfl
theorem apf_125 : apf Try.prog 125 = some (3, 24) := by kernel_rfl
theorem tyc_126 : tyc Try.prog 126 = some (false, 1) := by kernel_rfl
theorem zer_126 : zer Try.prog 126 = some [Go.Value.nilFunc] := by kernel_rfl
theorem tyc_128 : tyc Try.prog 128 = some (false, 1) := by kernel_rfl
theorem zer_128 : zer Try.prog 128 = some [Go.Value.nilFunc] := by kernel_rfl
theorem tyc_129 : tyc Try.prog 129 = some (false, 1) := by kernel_rfl
theorem zer_129 : zer Try.prog 129 = some [Go.Value.nilFunc] := by kernel_rfl
theorem tyc_130 : tyc Try.prog 130 = some (false, 1) := by kernel_rfl
theorem zer_130 : zer Try.prog 130 = some [Go.Value.nilFunc] := by kernel_rfl
theorem tyc_131 : tyc Try.prog 131 = some (false, 1) := by kernel_rfl
theorem zer_131 : zer Try.prog 131 = some [Go.Value.nilFunc] := by kernel_rfl
theorem tyc_132 : tyc Try.prog 132 = some (false, 1) := by kernel_rfl
theorem zer_132 : zer Try.prog 132 = some [Go.Value.nilFunc] := by kernel_rfl
theorem tyc_133 : tyc Try.prog 133 = some (false, 1) := by kernel_rfl
theorem zer_133 : zer Try.prog 133 = some [Go.Value.nilFunc] := by kernel_rfl
theorem tyc_134 : tyc Try.prog 134 = some (false, 1) := by kernel_rfl
theorem zer_134 : zer Try.prog 134 = some [Go.Value.nilFunc] := by kernel_rfl
theorem tyc_135 : tyc Try.prog 135 = some (false, 1) := by kernel_rfl
theorem zer_135 : zer Try.prog 135 = some [Go.Value.slice none 0 0] := by kernel_rfl
theorem zds_135 : zds Try.prog 135 = some [.sl 1 []] := by kernel_rfl
theorem elt_135 : elt Try.prog 135 = some (58, 1) := by kernel_rfl
theorem apf_135 : apf Try.prog 135 = some (1, 24) := by kernel_rfl
theorem tyc_136 : tyc Try.prog 136 = some (false, 1) := by kernel_rfl
theorem zer_136 : zer Try.prog 136 = some [Go.Value.nilFunc] := by kernel_rfl
theorem tyc_137 : tyc Try.prog 137 = some (false, 1) := by kernel_rfl
theorem zer_137 : zer Try.prog 137 = some [Go.Value.nilFunc] := by kernel_rfl
theorem tyc_138 : tyc Try.prog 138 = some (false, 1) := by kernel_rfl
theorem zer_138 : zer Try.prog 138 = some [Go.Value.nilFunc] := by kernel_rfl
theorem tyc_139 : tyc Try.prog 139 = some (true, 3) := by kernel_rfl
theorem zer_139 : zer Try.prog 139 = some [Go.Value.int Go.IntKind.i64 0, Go.Value.int Go.IntKind.i64 0, Go.Value.int Go.IntKind.i64 0] := by kernel_rfl
theorem zds_139 : zds Try.prog 139 = some [.v (Go.Value.int Go.IntKind.i64 0), .v (Go.Value.int Go.IntKind.i64 0), .v (Go.Value.int Go.IntKind.i64 0)] := by kernel_rfl
theorem fld_139_0 : fld Try.prog 139 0 = some (0, 87) := by kernel_rfl
theorem stf_139 : stf Try.prog 139 = some [(0, 3)] := by kernel_rfl
theorem arr_139 : arr Try.prog 139 = none := by kernel_rfl
theorem apf_139 : apf Try.prog 139 = some (3, 24) := by kernel_rfl
theorem tyc_140 : tyc Try.prog 140 = some (true, 3) := by kernel_rfl
theorem zer_140 : zer Try.prog 140 = some [Go.Value.int Go.IntKind.i64 0, Go.Value.int Go.IntKind.i64 0, Go.Value.int Go.IntKind.i64 0] := by kernel_rfl
theorem zds_140 : zds Try.prog 140 = some [.v (Go.Value.int Go.IntKind.i64 0), .v (Go.Value.int Go.IntKind.i64 0), .v (Go.Value.int Go.IntKind.i64 0)] := by kernel_rfl
theorem fld_140_0 : fld Try.prog 140 0 = some (0, 87) := by kernel_rfl
theorem stf_140 : stf Try.prog 140 = some [(0, 3)] := by kernel_rfl
theorem arr_140 : arr Try.prog 140 = none := by kernel_rfl
theorem apf_140 : apf Try.prog 140 = some (3, 24) := by kernel_rfl
theorem tyc_141 : tyc Try.prog 141 = some (false, 1) := by kernel_rfl
theorem zer_141 : zer Try.prog 141 = some [Go.Value.nilFunc] := by kernel_rfl
theorem tyc_142 : tyc Try.prog 142 = some (false, 1) := by kernel_rfl
theorem zer_142 : zer Try.prog 142 = some [Go.Value.nilFunc] := by kernel_rfl
theorem tyc_143 : tyc Try.prog 143 = some (false, 1) := by kernel_rfl
theorem zer_143 : zer Try.prog 143 = some [Go.Value.nilFunc] := by kernel_rfl
theorem tyc_144 : tyc Try.prog 144 = some (false, 1) := by kernel_rfl
theorem zer_144 : zer Try.prog 144 = some [Go.Value.nilFunc] := by kernel_rfl
theorem tyc_145 : tyc Try.prog 145 = some (false, 1) := by kernel_rfl
theorem zer_145 : zer Try.prog 145 = some [Go.Value.nilFunc] := by kernel_rfl
theorem tyc_146 : tyc Try.prog 146 = some (false, 1) := by kernel_rfl
theorem zer_146 : zer Try.prog 146 = some [Go.Value.nilFunc] := by kernel_rfl
theorem tyc_147 : tyc Try.prog 147 = some (false, 1) := by kernel_rfl
theorem zer_147 : zer Try.prog 147 = some [Go.Value.nilFunc] := by kernel_rfl
theorem tyc_148 : tyc Try.prog 148 = some (true, 4) := by kernel_rfl
theorem zer_148 : zer Try.prog 148 = some [Go.Value.pointer none, Go.Value.pointer none, Go.Value.pointer none, Go.Value.string { data := #[] }] := by kernel_rfl
theorem zds_148 : zds Try.prog 148 = some [.v (Go.Value.pointer none), .v (Go.Value.pointer none), .v (Go.Value.pointer none), .v (Go.Value.string { data := #[] })] := by kernel_rfl
theorem fld_148_0 : fld Try.prog 148 0 = some (0, 17) := by kernel_rfl
theorem fld_148_1 : fld Try.prog 148 1 = some (1, 17) := by kernel_rfl
theorem fld_148_2 : fld Try.prog 148 2 = some (2, 17) := by kernel_rfl
theorem fld_148_3 : fld Try.prog 148 3 = some (3, 9) := by kernel_rfl
theorem stf_148 : stf Try.prog 148 = some [(0, 1), (1, 1), (2, 1), (3, 1)] := by kernel_rfl
theorem arr_148 : arr Try.prog 148 = none := by kernel_rfl
theorem apf_148 : apf Try.prog 148 = some (4, 40) := by kernel_rfl
theorem tyc_149 : tyc Try.prog 149 = some (true, 4) := by kernel_rfl
theorem zer_149 : zer Try.prog 149 = some [Go.Value.pointer none, Go.Value.pointer none, Go.Value.pointer none, Go.Value.string { data := #[] }] := by kernel_rfl
theorem zds_149 : zds Try.prog 149 = some [.v (Go.Value.pointer none), .v (Go.Value.pointer none), .v (Go.Value.pointer none), .v (Go.Value.string { data := #[] })] := by kernel_rfl
theorem fld_149_0 : fld Try.prog 149 0 = some (0, 17) := by kernel_rfl
theorem fld_149_1 : fld Try.prog 149 1 = some (1, 17) := by kernel_rfl
theorem fld_149_2 : fld Try.prog 149 2 = some (2, 17) := by kernel_rfl
theorem fld_149_3 : fld Try.prog 149 3 = some (3, 9) := by kernel_rfl
theorem stf_149 : stf Try.prog 149 = some [(0, 1), (1, 1), (2, 1), (3, 1)] := by kernel_rfl
theorem arr_149 : arr Try.prog 149 = none := by kernel_rfl
theorem apf_149 : apf Try.prog 149 = some (4, 40) := by kernel_rfl
theorem tyc_150 : tyc Try.prog 150 = some (true, 0) := by kernel_rfl
theorem zer_150 : zer Try.prog 150 = some [] := by kernel_rfl
theorem zds_150 : zds Try.prog 150 = some [] := by kernel_rfl
theorem arr_150 : arr Try.prog 150 = some (0, 16, 1) := by kernel_rfl
theorem stf_150 : stf Try.prog 150 = none := by kernel_rfl
theorem tyc_151 : tyc Try.prog 151 = some (true, 0) := by kernel_rfl
theorem zer_151 : zer Try.prog 151 = some [] := by kernel_rfl
theorem zds_151 : zds Try.prog 151 = some [] := by kernel_rfl
theorem stf_151 : stf Try.prog 151 = some [(0, 0)] := by kernel_rfl
theorem arr_151 : arr Try.prog 151 = none := by kernel_rfl
theorem tyc_152 : tyc Try.prog 152 = some (true, 0) := by kernel_rfl
theorem zer_152 : zer Try.prog 152 = some [] := by kernel_rfl
theorem zds_152 : zds Try.prog 152 = some [] := by kernel_rfl
theorem stf_152 : stf Try.prog 152 = some [(0, 0)] := by kernel_rfl
theorem arr_152 : arr Try.prog 152 = none := by kernel_rfl
theorem tyc_153 : tyc Try.prog 153 = some (false, 1) := by kernel_rfl
theorem zer_153 : zer Try.prog 153 = some [Go.Value.nilFunc] := by kernel_rfl
theorem tyc_154 : tyc Try.prog 154 = some (false, 1) := by kernel_rfl
theorem zer_154 : zer Try.prog 154 = some [Go.Value.int Go.IntKind.u32 0] := by kernel_rfl
theorem zds_154 : zds Try.prog 154 = some [.v (Go.Value.int Go.IntKind.u32 0)] := by kernel_rfl
theorem und_154 : Try.prog.underlying 154 = some (.int .u32) := by kernel_rfl
theorem apf_154 : apf Try.prog 154 = some (1, 4) := by kernel_rfl
theorem tyc_155 : tyc Try.prog 155 = some (false, 1) := by kernel_rfl
theorem zer_155 : zer Try.prog 155 = some [Go.Value.int Go.IntKind.u8 0] := by kernel_rfl
theorem zds_155 : zds Try.prog 155 = some [.v (Go.Value.int Go.IntKind.u8 0)] := by kernel_rfl
theorem und_155 : Try.prog.underlying 155 = some (.int .u8) := by kernel_rfl
theorem apf_155 : apf Try.prog 155 = some (1, 1) := by kernel_rfl
theorem tyc_156 : tyc Try.prog 156 = some (false, 1) := by kernel_rfl
theorem zer_156 : zer Try.prog 156 = some [Go.Value.int Go.IntKind.u8 0] := by kernel_rfl
theorem zds_156 : zds Try.prog 156 = some [.v (Go.Value.int Go.IntKind.u8 0)] := by kernel_rfl
theorem und_156 : Try.prog.underlying 156 = some (.int .u8) := by kernel_rfl
theorem apf_156 : apf Try.prog 156 = some (1, 1) := by kernel_rfl
theorem tyc_157 : tyc Try.prog 157 = some (false, 1) := by kernel_rfl
theorem zer_157 : zer Try.prog 157 = some [Go.Value.nilFunc] := by kernel_rfl
theorem tyc_158 : tyc Try.prog 158 = some (false, 1) := by kernel_rfl
theorem zer_158 : zer Try.prog 158 = some [Go.Value.pointer none] := by kernel_rfl
theorem zds_158 : zds Try.prog 158 = some [.v (Go.Value.pointer none)] := by kernel_rfl
theorem apf_158 : apf Try.prog 158 = some (1, 8) := by kernel_rfl
theorem tyc_159 : tyc Try.prog 159 = some (false, 1) := by kernel_rfl
theorem zer_159 : zer Try.prog 159 = some [Go.Value.int Go.IntKind.i32 0] := by kernel_rfl
theorem zds_159 : zds Try.prog 159 = some [.v (Go.Value.int Go.IntKind.i32 0)] := by kernel_rfl
theorem und_159 : Try.prog.underlying 159 = some (.int .i32) := by kernel_rfl
theorem apf_159 : apf Try.prog 159 = some (1, 4) := by kernel_rfl
theorem tyc_160 : tyc Try.prog 160 = some (false, 1) := by kernel_rfl
theorem zer_160 : zer Try.prog 160 = some [Go.Value.int Go.IntKind.i32 0] := by kernel_rfl
theorem zds_160 : zds Try.prog 160 = some [.v (Go.Value.int Go.IntKind.i32 0)] := by kernel_rfl
theorem und_160 : Try.prog.underlying 160 = some (.int .i32) := by kernel_rfl
theorem apf_160 : apf Try.prog 160 = some (1, 4) := by kernel_rfl
theorem tyc_161 : tyc Try.prog 161 = some (true, 11) := by kernel_rfl
theorem zer_161 : zer Try.prog 161 = some [Go.Value.int Go.IntKind.u64 0, Go.Value.int Go.IntKind.u64 0, Go.Value.int Go.IntKind.u32 0, Go.Value.int Go.IntKind.u8 0, Go.Value.int Go.IntKind.u8 0, Go.Value.int Go.IntKind.u8 0, Go.Value.int Go.IntKind.u8 0, Go.Value.nilFunc, Go.Value.pointer none, Go.Value.int Go.IntKind.i32 0, Go.Value.int Go.IntKind.i32 0] := by kernel_rfl
theorem zds_161 : zds Try.prog 161 = some [.v (Go.Value.int Go.IntKind.u64 0), .v (Go.Value.int Go.IntKind.u64 0), .v (Go.Value.int Go.IntKind.u32 0), .v (Go.Value.int Go.IntKind.u8 0), .v (Go.Value.int Go.IntKind.u8 0), .v (Go.Value.int Go.IntKind.u8 0), .v (Go.Value.int Go.IntKind.u8 0), .v (Go.Value.nilFunc), .v (Go.Value.pointer none), .v (Go.Value.int Go.IntKind.i32 0), .v (Go.Value.int Go.IntKind.i32 0)] := by kernel_rfl
theorem fld_161_0 : fld Try.prog 161 0 = some (0, 12) := by kernel_rfl
theorem fld_161_1 : fld Try.prog 161 1 = some (1, 12) := by kernel_rfl
theorem fld_161_2 : fld Try.prog 161 2 = some (2, 154) := by kernel_rfl
theorem fld_161_3 : fld Try.prog 161 3 = some (3, 155) := by kernel_rfl
theorem fld_161_4 : fld Try.prog 161 4 = some (4, 5) := by kernel_rfl
theorem fld_161_5 : fld Try.prog 161 5 = some (5, 5) := by kernel_rfl
theorem fld_161_6 : fld Try.prog 161 6 = some (6, 156) := by kernel_rfl
theorem fld_161_7 : fld Try.prog 161 7 = some (7, 157) := by kernel_rfl
theorem fld_161_8 : fld Try.prog 161 8 = some (8, 158) := by kernel_rfl
theorem fld_161_9 : fld Try.prog 161 9 = some (9, 159) := by kernel_rfl
theorem fld_161_10 : fld Try.prog 161 10 = some (10, 160) := by kernel_rfl
theorem stf_161 : stf Try.prog 161 = some [(0, 1), (1, 1), (2, 1), (3, 1), (4, 1), (5, 1), (6, 1), (7, 1), (8, 1), (9, 1), (10, 1)] := by kernel_rfl
theorem arr_161 : arr Try.prog 161 = none := by kernel_rfl
theorem apf_161 : apf Try.prog 161 = some (11, 48) := by kernel_rfl
theorem tyc_162 : tyc Try.prog 162 = some (true, 11) := by kernel_rfl
theorem zer_162 : zer Try.prog 162 = some [Go.Value.int Go.IntKind.u64 0, Go.Value.int Go.IntKind.u64 0, Go.Value.int Go.IntKind.u32 0, Go.Value.int Go.IntKind.u8 0, Go.Value.int Go.IntKind.u8 0, Go.Value.int Go.IntKind.u8 0, Go.Value.int Go.IntKind.u8 0, Go.Value.nilFunc, Go.Value.pointer none, Go.Value.int Go.IntKind.i32 0, Go.Value.int Go.IntKind.i32 0] := by kernel_rfl
theorem zds_162 : zds Try.prog 162 = some [.v (Go.Value.int Go.IntKind.u64 0), .v (Go.Value.int Go.IntKind.u64 0), .v (Go.Value.int Go.IntKind.u32 0), .v (Go.Value.int Go.IntKind.u8 0), .v (Go.Value.int Go.IntKind.u8 0), .v (Go.Value.int Go.IntKind.u8 0), .v (Go.Value.int Go.IntKind.u8 0), .v (Go.Value.nilFunc), .v (Go.Value.pointer none), .v (Go.Value.int Go.IntKind.i32 0), .v (Go.Value.int Go.IntKind.i32 0)] := by kernel_rfl
theorem fld_162_0 : fld Try.prog 162 0 = some (0, 12) := by kernel_rfl
theorem fld_162_1 : fld Try.prog 162 1 = some (1, 12) := by kernel_rfl
theorem fld_162_2 : fld Try.prog 162 2 = some (2, 154) := by kernel_rfl
theorem fld_162_3 : fld Try.prog 162 3 = some (3, 155) := by kernel_rfl
theorem fld_162_4 : fld Try.prog 162 4 = some (4, 5) := by kernel_rfl
theorem fld_162_5 : fld Try.prog 162 5 = some (5, 5) := by kernel_rfl
theorem fld_162_6 : fld Try.prog 162 6 = some (6, 156) := by kernel_rfl
theorem fld_162_7 : fld Try.prog 162 7 = some (7, 157) := by kernel_rfl
theorem fld_162_8 : fld Try.prog 162 8 = some (8, 158) := by kernel_rfl
theorem fld_162_9 : fld Try.prog 162 9 = some (9, 159) := by kernel_rfl
theorem fld_162_10 : fld Try.prog 162 10 = some (10, 160) := by kernel_rfl
theorem stf_162 : stf Try.prog 162 = some [(0, 1), (1, 1), (2, 1), (3, 1), (4, 1), (5, 1), (6, 1), (7, 1), (8, 1), (9, 1), (10, 1)] := by kernel_rfl
theorem arr_162 : arr Try.prog 162 = none := by kernel_rfl
theorem apf_162 : apf Try.prog 162 = some (11, 48) := by kernel_rfl
theorem zro_4 : zro Try.prog 4 = some (Go.Value.bool false) := by kernel_rfl
theorem fun_6 : Try.prog.funcs[6]? = some Try.f6 := by kernel_rfl
theorem fun_9 : Try.prog.funcs[9]? = some Try.f9 := by kernel_rfl
theorem fun_12 : Try.prog.funcs[12]? = some Try.f12 := by kernel_rfl
theorem fun_13 : Try.prog.funcs[13]? = some Try.f13 := by kernel_rfl
theorem fun_14 : Try.prog.funcs[14]? = some Try.f14 := by kernel_rfl
theorem fun_15 : Try.prog.funcs[15]? = some Try.f15 := by kernel_rfl
theorem fun_16 : Try.prog.funcs[16]? = some Try.f16 := by kernel_rfl
theorem fun_17 : Try.prog.funcs[17]? = some Try.f17 := by kernel_rfl
theorem fun_18 : Try.prog.funcs[18]? = some Try.f18 := by kernel_rfl
theorem fun_19 : Try.prog.funcs[19]? = some Try.f19 := by kernel_rfl
theorem fun_20 : Try.prog.funcs[20]? = some Try.f20 := by kernel_rfl
theorem fun_21 : Try.prog.funcs[21]? = some Try.f21 := by kernel_rfl
theorem fun_22 : Try.prog.funcs[22]? = some Try.f22 := by kernel_rfl
theorem fun_25 : Try.prog.funcs[25]? = some Try.f25 := by kernel_rfl
theorem fun_26 : Try.prog.funcs[26]? = some Try.f26 := by kernel_rfl
theorem fun_27 : Try.prog.funcs[27]? = some Try.f27 := by kernel_rfl
theorem fun_28 : Try.prog.funcs[28]? = some Try.f28 := by kernel_rfl
theorem fun_29 : Try.prog.funcs[29]? = some Try.f29 := by kernel_rfl
theorem fun_31 : Try.prog.funcs[31]? = some Try.f31 := by kernel_rfl
theorem fun_32 : Try.prog.funcs[32]? = some Try.f32 := by kernel_rfl
theorem fun_33 : Try.prog.funcs[33]? = some Try.f33 := by kernel_rfl
theorem fun_34 : Try.prog.funcs[34]? = some Try.f34 := by kernel_rfl
theorem fun_35 : Try.prog.funcs[35]? = some Try.f35 := by kernel_rfl
theorem fun_36 : Try.prog.funcs[36]? = some Try.f36 := by kernel_rfl
theorem fun_37 : Try.prog.funcs[37]? = some Try.f37 := by kernel_rfl
theorem fun_38 : Try.prog.funcs[38]? = some Try.f38 := by kernel_rfl
theorem fun_39 : Try.prog.funcs[39]? = some Try.f39 := by kernel_rfl
theorem fun_40 : Try.prog.funcs[40]? = some Try.f40 := by kernel_rfl
theorem fun_41 : Try.prog.funcs[41]? = some Try.f41 := by kernel_rfl
theorem fun_42 : Try.prog.funcs[42]? = some Try.f42 := by kernel_rfl
theorem fun_43 : Try.prog.funcs[43]? = some Try.f43 := by kernel_rfl
theorem fun_44 : Try.prog.funcs[44]? = some Try.f44 := by kernel_rfl
theorem fun_45 : Try.prog.funcs[45]? = some Try.f45 := by kernel_rfl
theorem fun_47 : Try.prog.funcs[47]? = some Try.f47 := by kernel_rfl
theorem fun_48 : Try.prog.funcs[48]? = some Try.f48 := by kernel_rfl
theorem fun_49 : Try.prog.funcs[49]? = some Try.f49 := by kernel_rfl
theorem fun_50 : Try.prog.funcs[50]? = some Try.f50 := by kernel_rfl
theorem fun_51 : Try.prog.funcs[51]? = some Try.f51 := by kernel_rfl
theorem fun_52 : Try.prog.funcs[52]? = some Try.f52 := by kernel_rfl
theorem fun_53 : Try.prog.funcs[53]? = some Try.f53 := by kernel_rfl
theorem fun_54 : Try.prog.funcs[54]? = some Try.f54 := by kernel_rfl
theorem fun_55 : Try.prog.funcs[55]? = some Try.f55 := by kernel_rfl
theorem fun_56 : Try.prog.funcs[56]? = some Try.f56 := by kernel_rfl
theorem fun_57 : Try.prog.funcs[57]? = some Try.f57 := by kernel_rfl
theorem fun_58 : Try.prog.funcs[58]? = some Try.f58 := by kernel_rfl
theorem fun_59 : Try.prog.funcs[59]? = some Try.f59 := by kernel_rfl
theorem fun_60 : Try.prog.funcs[60]? = some Try.f60 := by kernel_rfl
theorem fun_61 : Try.prog.funcs[61]? = some Try.f61 := by kernel_rfl
theorem fun_62 : Try.prog.funcs[62]? = some Try.f62 := by kernel_rfl
theorem fun_63 : Try.prog.funcs[63]? = some Try.f63 := by kernel_rfl
theorem fun_64 : Try.prog.funcs[64]? = some Try.f64 := by kernel_rfl
theorem fun_65 : Try.prog.funcs[65]? = some Try.f65 := by kernel_rfl
def fA0 := (And.intro (And.intro (And.intro (And.intro (And.intro (And.intro (And.intro (And.intro (And.intro @tyc_1 @zer_1) (And.intro @tyc_2 (And.intro @zer_2 @zds_2))) (And.intro (And.intro @und_2 @apf_2) (And.intro @tyc_3 (And.intro @zer_3 @zds_3)))) (And.intro (And.intro (And.intro @und_3 @apf_3) (And.intro @tyc_4 (And.intro @zer_4 @zds_4))) (And.intro (And.intro @und_4 (And.intro @apf_4 @tyc_5)) (And.intro @zer_5 (And.intro @zds_5 @und_5))))) (And.intro (And.intro (And.intro (And.intro @apf_5 @tyc_6) (And.intro @zer_6 (And.intro @zds_6 @und_6))) (And.intro (And.intro @apf_6 (And.intro @tyc_7 @zer_7)) (And.intro @zds_7 (And.intro @fld_7_0 @fld_7_1)))) (And.intro (And.intro (And.intro @fld_7_2 @fld_7_3) (And.intro @stf_7 (And.intro @arr_7 @apf_7))) (And.intro (And.intro @tyc_8 (And.intro @zer_8 @zds_8)) (And.intro @fld_8_0 (And.intro @fld_8_1 @fld_8_2)))))) (And.intro (And.intro (And.intro (And.intro (And.intro @fld_8_3 @stf_8) (And.intro @arr_8 (And.intro @apf_8 @tyc_9))) (And.intro (And.intro @zer_9 (And.intro @zds_9 @apf_9)) (And.intro @tyc_10 (And.intro @zer_10 @zds_10)))) (And.intro (And.intro (And.intro @apf_10 @tyc_11) (And.intro @zer_11 (And.intro @zds_11 @apf_11))) (And.intro (And.intro @tyc_12 (And.intro @zer_12 @zds_12)) (And.intro @und_12 (And.intro @apf_12 @tyc_13))))) (And.intro (And.intro (And.intro (And.intro @zer_13 @zds_13) (And.intro @fld_13_0 (And.intro @fld_13_1 @stf_13))) (And.intro (And.intro @arr_13 (And.intro @apf_13 @tyc_14)) (And.intro @zer_14 (And.intro @zds_14 @fld_14_0)))) (And.intro (And.intro (And.intro @fld_14_1 @stf_14) (And.intro @arr_14 (And.intro @apf_14 @tyc_15))) (And.intro (And.intro @zer_15 (And.intro @zds_15 @apf_15)) (And.intro @tyc_16 (And.intro @zer_16 @zds_16))))))) (And.intro (And.intro (And.intro (And.intro (And.intro (And.intro @apf_16 @tyc_17) (And.intro @zer_17 (And.intro @zds_17 @apf_17))) (And.intro (And.intro @tyc_18 @zer_18) (And.intro @zds_18 (And.intro @fld_18_0 @stf_18)))) (And.intro (And.intro (And.intro @arr_18 @apf_18) (And.intro @tyc_19 (And.intro @zer_19 @zds_19))) (And.intro (And.intro @fld_19_0 (And.intro @stf_19 @arr_19)) (And.intro @apf_19 (And.intro @tyc_21 @zer_21))))) (And.intro (And.intro (And.intro (And.intro @zds_21 @und_21) (And.intro @apf_21 (And.intro @tyc_22 @zer_22))) (And.intro (And.intro @zds_22 (And.intro @elt_22 @apf_22)) (And.intro @tyc_23 (And.intro @zer_23 @zds_23)))) (And.intro (And.intro (And.intro @fld_23_0 @fld_23_1) (And.intro @fld_23_2 (And.intro @stf_23 @arr_23))) (And.intro (And.intro @apf_23 (And.intro @tyc_24 @zer_24)) (And.intro @zds_24 (And.intro @fld_24_0 @fld_24_1)))))) (And.intro (And.intro (And.intro (And.intro (And.intro @fld_24_2 @stf_24) (And.intro @arr_24 (And.intro @apf_24 @tyc_25))) (And.intro (And.intro @zer_25 (And.intro @zds_25 @und_25)) (And.intro @apf_25 (And.intro @tyc_26 @zer_26)))) (And.intro (And.intro (And.intro @zds_26 @arr_26) (And.intro @stf_26 (And.intro @apf_26 @tyc_27))) (And.intro (And.intro @zer_27 (And.intro @zds_27 @elt_27)) (And.intro @apf_27 (And.intro @tyc_28 @zer_28))))) (And.intro (And.intro (And.intro (And.intro @zds_28 @fld_28_0) (And.intro @fld_28_1 (And.intro @fld_28_2 @stf_28))) (And.intro (And.intro @arr_28 (And.intro @apf_28 @tyc_29)) (And.intro @zer_29 (And.intro @zds_29 @fld_29_0)))) (And.intro (And.intro (And.intro @fld_29_1 @fld_29_2) (And.intro @stf_29 (And.intro @arr_29 @apf_29))) (And.intro (And.intro @tyc_30 (And.intro @zer_30 @tyc_31)) (And.intro @zer_31 (And.intro @zds_31 @fld_31_0)))))))) (And.intro (And.intro (And.intro (And.intro (And.intro (And.intro (And.intro @fld_31_1 @fld_31_2) (And.intro @stf_31 (And.intro @arr_31 @apf_31))) (And.intro (And.intro @tyc_32 @zer_32) (And.intro @zds_32 (And.intro @fld_32_0 @fld_32_1)))) (And.intro (And.intro (And.intro @fld_32_2 @stf_32) (And.intro @arr_32 (And.intro @apf_32 @tyc_33))) (And.intro (And.intro @zer_33 (And.intro @zds_33 @und_33)) (And.intro @apf_33 (And.intro @tyc_35 @zer_35))))) (And.intro (And.intro (And.intro (And.intro @tyc_36 @zer_36) (And.intro @tyc_37 (And.intro @zer_37 @tyc_39))) (And.intro (And.intro @zer_39 (And.intro @tyc_40 @zer_40)) (And.intro @tyc_41 (And.intro @zer_41 @tyc_42)))) (And.intro (And.intro (And.intro @zer_42 @tyc_43) (And.intro @zer_43 (And.intro @zds_43 @elt_43))) (And.intro (And.intro @apf_43 (And.intro @tyc_44 @zer_44)) (And.intro @zds_44 (And.intro @arr_44 @stf_44)))))) (And.intro (And.intro (And.intro (And.intro (And.intro @apf_44 @tyc_45) (And.intro @zer_45 (And.intro @zds_45 @elt_45))) (And.intro (And.intro @apf_45 (And.intro @tyc_47 @zer_47)) (And.intro @tyc_48 (And.intro @zer_48 @tyc_49)))) (And.intro (And.intro (And.intro @zer_49 @zds_49) (And.intro @fld_49_0 (And.intro @stf_49 @arr_49))) (And.intro (And.intro @apf_49 (And.intro @tyc_50 @zer_50)) (And.intro @zds_50 (And.intro @fld_50_0 @stf_50))))) (And.intro (And.intro (And.intro (And.intro @arr_50 @apf_50) (And.intro @tyc_51 (And.intro @zer_51 @zds_51))) (And.intro (And.intro @arr_51 (And.intro @stf_51 @apf_51)) (And.intro @tyc_52 (And.intro @zer_52 @zds_52)))) (And.intro (And.intro (And.intro @elt_52 @apf_52) (And.intro @tyc_53 (And.intro @zer_53 @zds_53))) (And.intro (And.intro @fld_53_0 (And.intro @fld_53_1 @stf_53)) (And.intro @arr_53 (And.intro @apf_53 @tyc_54))))))) (And.intro (And.intro (And.intro (And.intro (And.intro (And.intro @zer_54 @zds_54) (And.intro @fld_54_0 (And.intro @fld_54_1 @stf_54))) (And.intro (And.intro @arr_54 (And.intro @apf_54 @tyc_55)) (And.intro @zer_55 (And.intro @tyc_56 @zer_56)))) (And.intro (And.intro (And.intro @tyc_57 @zer_57) (And.intro @tyc_58 (And.intro @zer_58 @zds_58))) (And.intro (And.intro @apf_58 (And.intro @tyc_59 @zer_59)) (And.intro @tyc_60 (And.intro @zer_60 @zds_60))))) (And.intro (And.intro (And.intro (And.intro @apf_60 @tyc_61) (And.intro @zer_61 (And.intro @tyc_62 @zer_62))) (And.intro (And.intro @zds_62 (And.intro @elt_62 @apf_62)) (And.intro @tyc_64 (And.intro @zer_64 @tyc_65)))) (And.intro (And.intro (And.intro @zer_65 @zds_65) (And.intro @elt_65 (And.intro @apf_65 @tyc_67))) (And.intro (And.intro @zer_67 (And.intro @tyc_68 @zer_68)) (And.intro @tyc_69 (And.intro @zer_69 @zds_69)))))) (And.intro (And.intro (And.intro (And.intro (And.intro @und_69 @apf_69) (And.intro @tyc_70 (And.intro @zer_70 @zds_70))) (And.intro (And.intro @fld_70_0 (And.intro @fld_70_1 @stf_70)) (And.intro @arr_70 (And.intro @apf_70 @tyc_71)))) (And.intro (And.intro (And.intro @zer_71 @zds_71) (And.intro @fld_71_0 (And.intro @fld_71_1 @stf_71))) (And.intro (And.intro @arr_71 (And.intro @apf_71 @tyc_72)) (And.intro @zer_72 (And.intro @zds_72 @fld_72_0))))) (And.intro (And.intro (And.intro (And.intro @fld_72_1 @stf_72) (And.intro @arr_72 (And.intro @apf_72 @tyc_73))) (And.intro (And.intro @zer_73 (And.intro @zds_73 @fld_73_0)) (And.intro @fld_73_1 (And.intro @stf_73 @arr_73)))) (And.intro (And.intro (And.intro @apf_73 @tyc_74) (And.intro @zer_74 (And.intro @tyc_75 @zer_75))) (And.intro (And.intro @tyc_76 (And.intro @zer_76 @tyc_77)) (And.intro @zer_77 (And.intro @zds_77 @elt_77))))))))) (And.intro (And.intro (And.intro (And.intro (And.intro (And.intro (And.intro (And.intro @apf_77 @tyc_78) (And.intro @zer_78 (And.intro @zds_78 @elt_78))) (And.intro (And.intro @apf_78 @tyc_80) (And.intro @zer_80 (And.intro @tyc_81 @zer_81)))) (And.intro (And.intro (And.intro @zds_81 @fld_81_0) (And.intro @fld_81_1 (And.intro @stf_81 @arr_81))) (And.intro (And.intro @apf_81 (And.intro @tyc_82 @zer_82)) (And.intro @zds_82 (And.intro @fld_82_0 @fld_82_1))))) (And.intro (And.intro (And.intro (And.intro @stf_82 @arr_82) (And.intro @apf_82 (And.intro @tyc_83 @zer_83))) (And.intro (And.intro @zds_83 (And.intro @arr_83 @stf_83)) (And.intro @apf_83 (And.intro @tyc_84 @zer_84)))) (And.intro (And.intro (And.intro @tyc_85 @zer_85) (And.intro @zds_85 (And.intro @elt_85 @apf_85))) (And.intro (And.intro @tyc_86 (And.intro @zer_86 @zds_86)) (And.intro @fld_86_0 (And.intro @fld_86_1 @fld_86_2)))))) (And.intro (And.intro (And.intro (And.intro (And.intro @stf_86 @arr_86) (And.intro @apf_86 (And.intro @tyc_87 @zer_87))) (And.intro (And.intro @zds_87 (And.intro @fld_87_0 @fld_87_1)) (And.intro @fld_87_2 (And.intro @stf_87 @arr_87)))) (And.intro (And.intro (And.intro @apf_87 @tyc_88) (And.intro @zer_88 (And.intro @tyc_89 @zer_89))) (And.intro (And.intro @zds_89 (And.intro @fld_89_0 @fld_89_1)) (And.intro @stf_89 (And.intro @arr_89 @apf_89))))) (And.intro (And.intro (And.intro (And.intro @tyc_90 @zer_90) (And.intro @zds_90 (And.intro @fld_90_0 @fld_90_1))) (And.intro (And.intro @stf_90 (And.intro @arr_90 @apf_90)) (And.intro @tyc_91 (And.intro @zer_91 @zds_91)))) (And.intro (And.intro (And.intro @arr_91 @stf_91) (And.intro @apf_91 (And.intro @tyc_92 @zer_92))) (And.intro (And.intro @zds_92 (And.intro @fld_92_0 @stf_92)) (And.intro @arr_92 (And.intro @apf_92 @tyc_93))))))) (And.intro (And.intro (And.intro (And.intro (And.intro (And.intro @zer_93 @zds_93) (And.intro @fld_93_0 (And.intro @stf_93 @arr_93))) (And.intro (And.intro @apf_93 @tyc_95) (And.intro @zer_95 (And.intro @tyc_96 @zer_96)))) (And.intro (And.intro (And.intro @tyc_97 @zer_97) (And.intro @tyc_98 (And.intro @zer_98 @tyc_99))) (And.intro (And.intro @zer_99 (And.intro @tyc_100 @zer_100)) (And.intro @tyc_101 (And.intro @zer_101 @tyc_102))))) (And.intro (And.intro (And.intro (And.intro @zer_102 @tyc_103) (And.intro @zer_103 (And.intro @zds_103 @apf_103))) (And.intro (And.intro @tyc_104 (And.intro @zer_104 @zds_104)) (And.intro @arr_104 (And.intro @stf_104 @apf_104)))) (And.intro (And.intro (And.intro @tyc_105 @zer_105) (And.intro @zds_105 (And.intro @apf_105 @tyc_107))) (And.intro (And.intro @zer_107 (And.intro @tyc_108 @zer_108)) (And.intro @tyc_109 (And.intro @zer_109 @tyc_110)))))) (And.intro (And.intro (And.intro (And.intro (And.intro @zer_110 @zds_110) (And.intro @fld_110_0 (And.intro @fld_110_1 @stf_110))) (And.intro (And.intro @arr_110 (And.intro @apf_110 @tyc_111)) (And.intro @zer_111 (And.intro @zds_111 @fld_111_0)))) (And.intro (And.intro (And.intro @fld_111_1 @stf_111) (And.intro @arr_111 (And.intro @apf_111 @tyc_112))) (And.intro (And.intro @zer_112 (And.intro @tyc_113 @zer_113)) (And.intro @zds_113 (And.intro @fld_113_0 @stf_113))))) (And.intro (And.intro (And.intro (And.intro @arr_113 @apf_113) (And.intro @tyc_114 (And.intro @zer_114 @zds_114))) (And.intro (And.intro @fld_114_0 (And.intro @stf_114 @arr_114)) (And.intro @apf_114 (And.intro @tyc_116 @zer_116)))) (And.intro (And.intro (And.intro @tyc_117 @zer_117) (And.intro @tyc_118 (And.intro @zer_118 @tyc_119))) (And.intro (And.intro @zer_119 (And.intro @tyc_120 @zer_120)) (And.intro @tyc_121 (And.intro @zer_121 @tyc_122)))))))) (And.intro (And.intro (And.intro (And.intro (And.intro (And.intro (And.intro @zer_122 @zds_122) (And.intro @mpt_122 (And.intro @apf_122 @tyc_123))) (And.intro (And.intro @zer_123 @zds_123) (And.intro @mpt_123 (And.intro @apf_123 @tyc_124)))) (And.intro (And.intro (And.intro @zer_124 @tyc_125) (And.intro @zer_125 (And.intro @zds_125 @arr_125))) (And.intro (And.intro @stf_125 (And.intro @apf_125 @tyc_126)) (And.intro @zer_126 (And.intro @tyc_128 @zer_128))))) (And.intro (And.intro (And.intro (And.intro @tyc_129 @zer_129) (And.intro @tyc_130 (And.intro @zer_130 @tyc_131))) (And.intro (And.intro @zer_131 (And.intro @tyc_132 @zer_132)) (And.intro @tyc_133 (And.intro @zer_133 @tyc_134)))) (And.intro (And.intro (And.intro @zer_134 @tyc_135) (And.intro @zer_135 (And.intro @zds_135 @elt_135))) (And.intro (And.intro @apf_135 (And.intro @tyc_136 @zer_136)) (And.intro @tyc_137 (And.intro @zer_137 @tyc_138)))))) (And.intro (And.intro (And.intro (And.intro (And.intro @zer_138 @tyc_139) (And.intro @zer_139 (And.intro @zds_139 @fld_139_0))) (And.intro (And.intro @stf_139 (And.intro @arr_139 @apf_139)) (And.intro @tyc_140 (And.intro @zer_140 @zds_140)))) (And.intro (And.intro (And.intro @fld_140_0 @stf_140) (And.intro @arr_140 (And.intro @apf_140 @tyc_141))) (And.intro (And.intro @zer_141 (And.intro @tyc_142 @zer_142)) (And.intro @tyc_143 (And.intro @zer_143 @tyc_144))))) (And.intro (And.intro (And.intro (And.intro @zer_144 @tyc_145) (And.intro @zer_145 (And.intro @tyc_146 @zer_146))) (And.intro (And.intro @tyc_147 (And.intro @zer_147 @tyc_148)) (And.intro @zer_148 (And.intro @zds_148 @fld_148_0)))) (And.intro (And.intro (And.intro @fld_148_1 @fld_148_2) (And.intro @fld_148_3 (And.intro @stf_148 @arr_148))) (And.intro (And.intro @apf_148 (And.intro @tyc_149 @zer_149)) (And.intro @zds_149 (And.intro @fld_149_0 @fld_149_1))))))) (And.intro (And.intro (And.intro (And.intro (And.intro (And.intro @fld_149_2 @fld_149_3) (And.intro @stf_149 (And.intro @arr_149 @apf_149))) (And.intro (And.intro @tyc_150 (And.intro @zer_150 @zds_150)) (And.intro @arr_150 (And.intro @stf_150 @tyc_151)))) (And.intro (And.intro (And.intro @zer_151 @zds_151) (And.intro @stf_151 (And.intro @arr_151 @tyc_152))) (And.intro (And.intro @zer_152 (And.intro @zds_152 @stf_152)) (And.intro @arr_152 (And.intro @tyc_153 @zer_153))))) (And.intro (And.intro (And.intro (And.intro @tyc_154 @zer_154) (And.intro @zds_154 (And.intro @und_154 @apf_154))) (And.intro (And.intro @tyc_155 (And.intro @zer_155 @zds_155)) (And.intro @und_155 (And.intro @apf_155 @tyc_156)))) (And.intro (And.intro (And.intro @zer_156 @zds_156) (And.intro @und_156 (And.intro @apf_156 @tyc_157))) (And.intro (And.intro @zer_157 (And.intro @tyc_158 @zer_158)) (And.intro @zds_158 (And.intro @apf_158 @tyc_159)))))) (And.intro (And.intro (And.intro (And.intro (And.intro @zer_159 @zds_159) (And.intro @und_159 (And.intro @apf_159 @tyc_160))) (And.intro (And.intro @zer_160 (And.intro @zds_160 @und_160)) (And.intro @apf_160 (And.intro @tyc_161 @zer_161)))) (And.intro (And.intro (And.intro @zds_161 @fld_161_0) (And.intro @fld_161_1 (And.intro @fld_161_2 @fld_161_3))) (And.intro (And.intro @fld_161_4 (And.intro @fld_161_5 @fld_161_6)) (And.intro @fld_161_7 (And.intro @fld_161_8 @fld_161_9))))) (And.intro (And.intro (And.intro (And.intro @fld_161_10 @stf_161) (And.intro @arr_161 (And.intro @apf_161 @tyc_162))) (And.intro (And.intro @zer_162 (And.intro @zds_162 @fld_162_0)) (And.intro @fld_162_1 (And.intro @fld_162_2 @fld_162_3)))) (And.intro (And.intro (And.intro @fld_162_4 @fld_162_5) (And.intro @fld_162_6 (And.intro @fld_162_7 @fld_162_8))) (And.intro (And.intro @fld_162_9 (And.intro @fld_162_10 @stf_162)) (And.intro @arr_162 (And.intro @apf_162 @zro_4))))))))))
theorem fA : type_of% fA0 := fA0
end Go.Proofs.Ytpnmbpbcgifkeaa.Ab
