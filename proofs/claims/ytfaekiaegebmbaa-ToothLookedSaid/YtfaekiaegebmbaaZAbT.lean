/- Facts of the seat: its types and its functions, by number. -/
import Derived.Test.YtfaekiaegebmbaaZAbV
import Derived.Test.YtfaekiaegebmbaaProg
import Derived.KernelRfl
namespace Go.Proofs.Ytfaekiaegebmbaa.Ab
open Go Go.RowKit
set_option linter.defProp false
theorem tyc_2 : tyc Try.prog 2 = some (false, 1) := by kernel_rfl
theorem zer_2 : zer Try.prog 2 = some [Go.Value.int Go.IntKind.i64 0] := by kernel_rfl
theorem zds_2 : zds Try.prog 2 = some [.v (Go.Value.int Go.IntKind.i64 0)] := by kernel_rfl
theorem und_2 : Try.prog.underlying 2 = some (.int .i64) := by kernel_rfl
theorem apf_2 : apf Try.prog 2 = some (1, 8) := by kernel_rfl
theorem tyc_3 : tyc Try.prog 3 = some (false, 1) := by kernel_rfl
theorem zer_3 : zer Try.prog 3 = some [Go.Value.int Go.IntKind.i64 0] := by kernel_rfl
theorem zds_3 : zds Try.prog 3 = some [.v (Go.Value.int Go.IntKind.i64 0)] := by kernel_rfl
theorem und_3 : Try.prog.underlying 3 = some (.int .i64) := by kernel_rfl
theorem apf_3 : apf Try.prog 3 = some (1, 8) := by kernel_rfl
theorem tyc_4 : tyc Try.prog 4 = some (false, 1) := by kernel_rfl
theorem zer_4 : zer Try.prog 4 = some [Go.Value.bool false] := by kernel_rfl
theorem zds_4 : zds Try.prog 4 = some [.v (Go.Value.bool false)] := by kernel_rfl
theorem und_4 : Try.prog.underlying 4 = some .bool := by kernel_rfl
theorem apf_4 : apf Try.prog 4 = some (1, 1) := by kernel_rfl
theorem tyc_5 : tyc Try.prog 5 = some (false, 1) := by kernel_rfl
theorem zer_5 : zer Try.prog 5 = some [Go.Value.int Go.IntKind.u8 0] := by kernel_rfl
theorem zds_5 : zds Try.prog 5 = some [.v (Go.Value.int Go.IntKind.u8 0)] := by kernel_rfl
theorem und_5 : Try.prog.underlying 5 = some (.int .u8) := by kernel_rfl
theorem apf_5 : apf Try.prog 5 = some (1, 1) := by kernel_rfl
theorem tyc_6 : tyc Try.prog 6 = some (false, 1) := by kernel_rfl
theorem zer_6 : zer Try.prog 6 = some [Go.Value.int Go.IntKind.u8 0] := by kernel_rfl
theorem zds_6 : zds Try.prog 6 = some [.v (Go.Value.int Go.IntKind.u8 0)] := by kernel_rfl
theorem und_6 : Try.prog.underlying 6 = some (.int .u8) := by kernel_rfl
theorem apf_6 : apf Try.prog 6 = some (1, 1) := by kernel_rfl
theorem tyc_7 : tyc Try.prog 7 = some (true, 4) := by kernel_rfl
theorem zer_7 : zer Try.prog 7 = some [Go.Value.int Go.IntKind.i64 0, Go.Value.int Go.IntKind.i64 0, Go.Value.bool false, Go.Value.int Go.IntKind.u8 0] := by kernel_rfl
theorem zds_7 : zds Try.prog 7 = some [.v (Go.Value.int Go.IntKind.i64 0), .v (Go.Value.int Go.IntKind.i64 0), .v (Go.Value.bool false), .v (Go.Value.int Go.IntKind.u8 0)] := by kernel_rfl
theorem fld_7_0 : fld Try.prog 7 0 = some (0, 2) := by kernel_rfl
theorem fld_7_1 : fld Try.prog 7 1 = some (1, 3) := by kernel_rfl
theorem fld_7_2 : fld Try.prog 7 2 = some (2, 4) := by kernel_rfl
theorem fld_7_3 : fld Try.prog 7 3 = some (3, 6) := by kernel_rfl
theorem stf_7 : stf Try.prog 7 = some [(0, 1), (1, 1), (2, 1), (3, 1)] := by kernel_rfl
theorem arr_7 : arr Try.prog 7 = none := by kernel_rfl
theorem apf_7 : apf Try.prog 7 = some (4, 24) := by kernel_rfl
theorem tyc_8 : tyc Try.prog 8 = some (true, 4) := by kernel_rfl
theorem zer_8 : zer Try.prog 8 = some [Go.Value.int Go.IntKind.i64 0, Go.Value.int Go.IntKind.i64 0, Go.Value.bool false, Go.Value.int Go.IntKind.u8 0] := by kernel_rfl
theorem zds_8 : zds Try.prog 8 = some [.v (Go.Value.int Go.IntKind.i64 0), .v (Go.Value.int Go.IntKind.i64 0), .v (Go.Value.bool false), .v (Go.Value.int Go.IntKind.u8 0)] := by kernel_rfl
theorem fld_8_0 : fld Try.prog 8 0 = some (0, 2) := by kernel_rfl
theorem fld_8_1 : fld Try.prog 8 1 = some (1, 3) := by kernel_rfl
theorem fld_8_2 : fld Try.prog 8 2 = some (2, 4) := by kernel_rfl
theorem fld_8_3 : fld Try.prog 8 3 = some (3, 6) := by kernel_rfl
theorem stf_8 : stf Try.prog 8 = some [(0, 1), (1, 1), (2, 1), (3, 1)] := by kernel_rfl
theorem arr_8 : arr Try.prog 8 = none := by kernel_rfl
theorem apf_8 : apf Try.prog 8 = some (4, 24) := by kernel_rfl
theorem tyc_9 : tyc Try.prog 9 = some (false, 1) := by kernel_rfl
theorem zer_9 : zer Try.prog 9 = some [Go.Value.string { data := #[] }] := by kernel_rfl
theorem zds_9 : zds Try.prog 9 = some [.v (Go.Value.string { data := #[] })] := by kernel_rfl
theorem apf_9 : apf Try.prog 9 = some (1, 16) := by kernel_rfl
theorem tyc_10 : tyc Try.prog 10 = some (false, 1) := by kernel_rfl
theorem zer_10 : zer Try.prog 10 = some [Go.Value.string { data := #[] }] := by kernel_rfl
theorem zds_10 : zds Try.prog 10 = some [.v (Go.Value.string { data := #[] })] := by kernel_rfl
theorem apf_10 : apf Try.prog 10 = some (1, 16) := by kernel_rfl
theorem tyc_11 : tyc Try.prog 11 = some (false, 1) := by kernel_rfl
theorem zer_11 : zer Try.prog 11 = some [Go.Value.string { data := #[] }] := by kernel_rfl
theorem zds_11 : zds Try.prog 11 = some [.v (Go.Value.string { data := #[] })] := by kernel_rfl
theorem apf_11 : apf Try.prog 11 = some (1, 16) := by kernel_rfl
theorem tyc_12 : tyc Try.prog 12 = some (false, 1) := by kernel_rfl
theorem zer_12 : zer Try.prog 12 = some [Go.Value.int Go.IntKind.u64 0] := by kernel_rfl
theorem zds_12 : zds Try.prog 12 = some [.v (Go.Value.int Go.IntKind.u64 0)] := by kernel_rfl
theorem und_12 : Try.prog.underlying 12 = some (.int .u64) := by kernel_rfl
theorem apf_12 : apf Try.prog 12 = some (1, 8) := by kernel_rfl
theorem tyc_13 : tyc Try.prog 13 = some (true, 2) := by kernel_rfl
theorem zer_13 : zer Try.prog 13 = some [Go.Value.string { data := #[] }, Go.Value.int Go.IntKind.u64 0] := by kernel_rfl
theorem zds_13 : zds Try.prog 13 = some [.v (Go.Value.string { data := #[] }), .v (Go.Value.int Go.IntKind.u64 0)] := by kernel_rfl
theorem fld_13_0 : fld Try.prog 13 0 = some (0, 9) := by kernel_rfl
theorem fld_13_1 : fld Try.prog 13 1 = some (1, 12) := by kernel_rfl
theorem stf_13 : stf Try.prog 13 = some [(0, 1), (1, 1)] := by kernel_rfl
theorem arr_13 : arr Try.prog 13 = none := by kernel_rfl
theorem apf_13 : apf Try.prog 13 = some (2, 24) := by kernel_rfl
theorem tyc_14 : tyc Try.prog 14 = some (true, 2) := by kernel_rfl
theorem zer_14 : zer Try.prog 14 = some [Go.Value.string { data := #[] }, Go.Value.int Go.IntKind.u64 0] := by kernel_rfl
theorem zds_14 : zds Try.prog 14 = some [.v (Go.Value.string { data := #[] }), .v (Go.Value.int Go.IntKind.u64 0)] := by kernel_rfl
theorem fld_14_0 : fld Try.prog 14 0 = some (0, 9) := by kernel_rfl
theorem fld_14_1 : fld Try.prog 14 1 = some (1, 12) := by kernel_rfl
theorem stf_14 : stf Try.prog 14 = some [(0, 1), (1, 1)] := by kernel_rfl
theorem arr_14 : arr Try.prog 14 = none := by kernel_rfl
theorem apf_14 : apf Try.prog 14 = some (2, 24) := by kernel_rfl
theorem tyc_15 : tyc Try.prog 15 = some (false, 1) := by kernel_rfl
theorem zer_15 : zer Try.prog 15 = some [Go.Value.pointer none] := by kernel_rfl
theorem zds_15 : zds Try.prog 15 = some [.v (Go.Value.pointer none)] := by kernel_rfl
theorem apf_15 : apf Try.prog 15 = some (1, 8) := by kernel_rfl
theorem tyc_16 : tyc Try.prog 16 = some (false, 1) := by kernel_rfl
theorem zer_16 : zer Try.prog 16 = some [Go.Value.pointer none] := by kernel_rfl
theorem zds_16 : zds Try.prog 16 = some [.v (Go.Value.pointer none)] := by kernel_rfl
theorem apf_16 : apf Try.prog 16 = some (1, 8) := by kernel_rfl
theorem tyc_17 : tyc Try.prog 17 = some (false, 1) := by kernel_rfl
theorem zer_17 : zer Try.prog 17 = some [Go.Value.pointer none] := by kernel_rfl
theorem zds_17 : zds Try.prog 17 = some [.v (Go.Value.pointer none)] := by kernel_rfl
theorem apf_17 : apf Try.prog 17 = some (1, 8) := by kernel_rfl
theorem tyc_18 : tyc Try.prog 18 = some (true, 1) := by kernel_rfl
theorem zer_18 : zer Try.prog 18 = some [Go.Value.pointer none] := by kernel_rfl
theorem zds_18 : zds Try.prog 18 = some [.v (Go.Value.pointer none)] := by kernel_rfl
theorem fld_18_0 : fld Try.prog 18 0 = some (0, 17) := by kernel_rfl
theorem stf_18 : stf Try.prog 18 = some [(0, 1)] := by kernel_rfl
theorem arr_18 : arr Try.prog 18 = none := by kernel_rfl
theorem apf_18 : apf Try.prog 18 = some (1, 8) := by kernel_rfl
theorem tyc_19 : tyc Try.prog 19 = some (true, 1) := by kernel_rfl
theorem zer_19 : zer Try.prog 19 = some [Go.Value.pointer none] := by kernel_rfl
theorem zds_19 : zds Try.prog 19 = some [.v (Go.Value.pointer none)] := by kernel_rfl
theorem fld_19_0 : fld Try.prog 19 0 = some (0, 17) := by kernel_rfl
theorem stf_19 : stf Try.prog 19 = some [(0, 1)] := by kernel_rfl
theorem arr_19 : arr Try.prog 19 = none := by kernel_rfl
theorem apf_19 : apf Try.prog 19 = some (1, 8) := by kernel_rfl
theorem tyc_21 : tyc Try.prog 21 = some (false, 1) := by kernel_rfl
theorem zer_21 : zer Try.prog 21 = some [Go.Value.int Go.IntKind.i32 0] := by kernel_rfl
theorem zds_21 : zds Try.prog 21 = some [.v (Go.Value.int Go.IntKind.i32 0)] := by kernel_rfl
theorem und_21 : Try.prog.underlying 21 = some (.int .i32) := by kernel_rfl
theorem apf_21 : apf Try.prog 21 = some (1, 4) := by kernel_rfl
theorem tyc_22 : tyc Try.prog 22 = some (false, 1) := by kernel_rfl
theorem zer_22 : zer Try.prog 22 = some [Go.Value.slice none 0 0] := by kernel_rfl
theorem zds_22 : zds Try.prog 22 = some [.sl 4 []] := by kernel_rfl
theorem elt_22 : elt Try.prog 22 = some (24, 4) := by kernel_rfl
theorem apf_22 : apf Try.prog 22 = some (1, 24) := by kernel_rfl
theorem tyc_23 : tyc Try.prog 23 = some (false, 1) := by kernel_rfl
theorem zer_23 : zer Try.prog 23 = some [Go.Value.slice none 0 0] := by kernel_rfl
theorem zds_23 : zds Try.prog 23 = some [.sl 6 []] := by kernel_rfl
theorem elt_23 : elt Try.prog 23 = some (141, 6) := by kernel_rfl
theorem apf_23 : apf Try.prog 23 = some (1, 24) := by kernel_rfl
theorem tyc_24 : tyc Try.prog 24 = some (true, 4) := by kernel_rfl
theorem zer_24 : zer Try.prog 24 = some [Go.Value.int Go.IntKind.u8 0, Go.Value.int Go.IntKind.u8 0, Go.Value.int Go.IntKind.u8 0, Go.Value.int Go.IntKind.u8 0] := by kernel_rfl
theorem zds_24 : zds Try.prog 24 = some [.v (Go.Value.int Go.IntKind.u8 0), .v (Go.Value.int Go.IntKind.u8 0), .v (Go.Value.int Go.IntKind.u8 0), .v (Go.Value.int Go.IntKind.u8 0)] := by kernel_rfl
theorem arr_24 : arr Try.prog 24 = some (4, 5, 1) := by kernel_rfl
theorem stf_24 : stf Try.prog 24 = none := by kernel_rfl
theorem apf_24 : apf Try.prog 24 = some (4, 4) := by kernel_rfl
theorem tyc_25 : tyc Try.prog 25 = some (true, 7) := by kernel_rfl
theorem zer_25 : zer Try.prog 25 = some [Go.Value.slice none 0 0, Go.Value.int Go.IntKind.u8 0, Go.Value.slice none 0 0, Go.Value.int Go.IntKind.u8 0, Go.Value.int Go.IntKind.u8 0, Go.Value.int Go.IntKind.u8 0, Go.Value.int Go.IntKind.u8 0] := by kernel_rfl
theorem zds_25 : zds Try.prog 25 = some [.v (Go.Value.slice none 0 0), .v (Go.Value.int Go.IntKind.u8 0), .v (Go.Value.slice none 0 0), .v (Go.Value.int Go.IntKind.u8 0), .v (Go.Value.int Go.IntKind.u8 0), .v (Go.Value.int Go.IntKind.u8 0), .v (Go.Value.int Go.IntKind.u8 0)] := by kernel_rfl
theorem fld_25_0 : fld Try.prog 25 0 = some (0, 22) := by kernel_rfl
theorem fld_25_1 : fld Try.prog 25 1 = some (1, 5) := by kernel_rfl
theorem fld_25_2 : fld Try.prog 25 2 = some (2, 23) := by kernel_rfl
theorem fld_25_3 : fld Try.prog 25 3 = some (3, 24) := by kernel_rfl
theorem stf_25 : stf Try.prog 25 = some [(0, 1), (1, 1), (2, 1), (3, 4)] := by kernel_rfl
theorem arr_25 : arr Try.prog 25 = none := by kernel_rfl
theorem apf_25 : apf Try.prog 25 = some (7, 64) := by kernel_rfl
theorem tyc_26 : tyc Try.prog 26 = some (true, 7) := by kernel_rfl
theorem zer_26 : zer Try.prog 26 = some [Go.Value.slice none 0 0, Go.Value.int Go.IntKind.u8 0, Go.Value.slice none 0 0, Go.Value.int Go.IntKind.u8 0, Go.Value.int Go.IntKind.u8 0, Go.Value.int Go.IntKind.u8 0, Go.Value.int Go.IntKind.u8 0] := by kernel_rfl
theorem zds_26 : zds Try.prog 26 = some [.v (Go.Value.slice none 0 0), .v (Go.Value.int Go.IntKind.u8 0), .v (Go.Value.slice none 0 0), .v (Go.Value.int Go.IntKind.u8 0), .v (Go.Value.int Go.IntKind.u8 0), .v (Go.Value.int Go.IntKind.u8 0), .v (Go.Value.int Go.IntKind.u8 0)] := by kernel_rfl
theorem fld_26_0 : fld Try.prog 26 0 = some (0, 22) := by kernel_rfl
theorem fld_26_1 : fld Try.prog 26 1 = some (1, 5) := by kernel_rfl
theorem fld_26_2 : fld Try.prog 26 2 = some (2, 23) := by kernel_rfl
theorem fld_26_3 : fld Try.prog 26 3 = some (3, 24) := by kernel_rfl
theorem stf_26 : stf Try.prog 26 = some [(0, 1), (1, 1), (2, 1), (3, 4)] := by kernel_rfl
theorem arr_26 : arr Try.prog 26 = none := by kernel_rfl
theorem apf_26 : apf Try.prog 26 = some (7, 64) := by kernel_rfl
theorem tyc_27 : tyc Try.prog 27 = some (false, 1) := by kernel_rfl
theorem zer_27 : zer Try.prog 27 = some [Go.Value.slice none 0 0] := by kernel_rfl
theorem zds_27 : zds Try.prog 27 = some [.sl 2 []] := by kernel_rfl
theorem elt_27 : elt Try.prog 27 = some (44, 2) := by kernel_rfl
theorem apf_27 : apf Try.prog 27 = some (1, 24) := by kernel_rfl
theorem tyc_28 : tyc Try.prog 28 = some (false, 1) := by kernel_rfl
theorem zer_28 : zer Try.prog 28 = some [Go.Value.slice none 0 0] := by kernel_rfl
theorem zds_28 : zds Try.prog 28 = some [.sl 6 []] := by kernel_rfl
theorem elt_28 : elt Try.prog 28 = some (99, 6) := by kernel_rfl
theorem apf_28 : apf Try.prog 28 = some (1, 24) := by kernel_rfl
theorem tyc_29 : tyc Try.prog 29 = some (true, 4) := by kernel_rfl
theorem zer_29 : zer Try.prog 29 = some [Go.Value.slice none 0 0, Go.Value.slice none 0 0, Go.Value.int Go.IntKind.i64 0, Go.Value.slice none 0 0] := by kernel_rfl
theorem zds_29 : zds Try.prog 29 = some [.v (Go.Value.slice none 0 0), .v (Go.Value.slice none 0 0), .v (Go.Value.int Go.IntKind.i64 0), .v (Go.Value.slice none 0 0)] := by kernel_rfl
theorem fld_29_0 : fld Try.prog 29 0 = some (0, 27) := by kernel_rfl
theorem fld_29_1 : fld Try.prog 29 1 = some (1, 27) := by kernel_rfl
theorem fld_29_2 : fld Try.prog 29 2 = some (2, 3) := by kernel_rfl
theorem fld_29_3 : fld Try.prog 29 3 = some (3, 28) := by kernel_rfl
theorem stf_29 : stf Try.prog 29 = some [(0, 1), (1, 1), (2, 1), (3, 1)] := by kernel_rfl
theorem arr_29 : arr Try.prog 29 = none := by kernel_rfl
theorem apf_29 : apf Try.prog 29 = some (4, 80) := by kernel_rfl
theorem tyc_30 : tyc Try.prog 30 = some (true, 4) := by kernel_rfl
theorem zer_30 : zer Try.prog 30 = some [Go.Value.slice none 0 0, Go.Value.slice none 0 0, Go.Value.int Go.IntKind.i64 0, Go.Value.slice none 0 0] := by kernel_rfl
theorem zds_30 : zds Try.prog 30 = some [.v (Go.Value.slice none 0 0), .v (Go.Value.slice none 0 0), .v (Go.Value.int Go.IntKind.i64 0), .v (Go.Value.slice none 0 0)] := by kernel_rfl
theorem fld_30_0 : fld Try.prog 30 0 = some (0, 27) := by kernel_rfl
theorem fld_30_1 : fld Try.prog 30 1 = some (1, 27) := by kernel_rfl
theorem fld_30_2 : fld Try.prog 30 2 = some (2, 3) := by kernel_rfl
theorem fld_30_3 : fld Try.prog 30 3 = some (3, 28) := by kernel_rfl
theorem stf_30 : stf Try.prog 30 = some [(0, 1), (1, 1), (2, 1), (3, 1)] := by kernel_rfl
theorem arr_30 : arr Try.prog 30 = none := by kernel_rfl
theorem apf_30 : apf Try.prog 30 = some (4, 80) := by kernel_rfl
theorem tyc_31 : tyc Try.prog 31 = some (true, 4) := by kernel_rfl
theorem zer_31 : zer Try.prog 31 = some [Go.Value.int Go.IntKind.i64 0, Go.Value.int Go.IntKind.i64 0, Go.Value.int Go.IntKind.i64 0, Go.Value.int Go.IntKind.i64 0] := by kernel_rfl
theorem zds_31 : zds Try.prog 31 = some [.v (Go.Value.int Go.IntKind.i64 0), .v (Go.Value.int Go.IntKind.i64 0), .v (Go.Value.int Go.IntKind.i64 0), .v (Go.Value.int Go.IntKind.i64 0)] := by kernel_rfl
theorem fld_31_0 : fld Try.prog 31 0 = some (0, 3) := by kernel_rfl
theorem fld_31_1 : fld Try.prog 31 1 = some (1, 3) := by kernel_rfl
theorem fld_31_2 : fld Try.prog 31 2 = some (2, 3) := by kernel_rfl
theorem fld_31_3 : fld Try.prog 31 3 = some (3, 3) := by kernel_rfl
theorem stf_31 : stf Try.prog 31 = some [(0, 1), (1, 1), (2, 1), (3, 1)] := by kernel_rfl
theorem arr_31 : arr Try.prog 31 = none := by kernel_rfl
theorem apf_31 : apf Try.prog 31 = some (4, 32) := by kernel_rfl
theorem tyc_32 : tyc Try.prog 32 = some (true, 4) := by kernel_rfl
theorem zer_32 : zer Try.prog 32 = some [Go.Value.int Go.IntKind.i64 0, Go.Value.int Go.IntKind.i64 0, Go.Value.int Go.IntKind.i64 0, Go.Value.int Go.IntKind.i64 0] := by kernel_rfl
theorem zds_32 : zds Try.prog 32 = some [.v (Go.Value.int Go.IntKind.i64 0), .v (Go.Value.int Go.IntKind.i64 0), .v (Go.Value.int Go.IntKind.i64 0), .v (Go.Value.int Go.IntKind.i64 0)] := by kernel_rfl
theorem fld_32_0 : fld Try.prog 32 0 = some (0, 3) := by kernel_rfl
theorem fld_32_1 : fld Try.prog 32 1 = some (1, 3) := by kernel_rfl
theorem fld_32_2 : fld Try.prog 32 2 = some (2, 3) := by kernel_rfl
theorem fld_32_3 : fld Try.prog 32 3 = some (3, 3) := by kernel_rfl
theorem stf_32 : stf Try.prog 32 = some [(0, 1), (1, 1), (2, 1), (3, 1)] := by kernel_rfl
theorem arr_32 : arr Try.prog 32 = none := by kernel_rfl
theorem apf_32 : apf Try.prog 32 = some (4, 32) := by kernel_rfl
theorem tyc_33 : tyc Try.prog 33 = some (false, 1) := by kernel_rfl
theorem zer_33 : zer Try.prog 33 = some [Go.Value.slice none 0 0] := by kernel_rfl
theorem zds_33 : zds Try.prog 33 = some [.sl 1 []] := by kernel_rfl
theorem elt_33 : elt Try.prog 33 = some (3, 1) := by kernel_rfl
theorem apf_33 : apf Try.prog 33 = some (1, 24) := by kernel_rfl
theorem tyc_34 : tyc Try.prog 34 = some (false, 1) := by kernel_rfl
theorem zer_34 : zer Try.prog 34 = some [Go.Value.slice none 0 0] := by kernel_rfl
theorem zds_34 : zds Try.prog 34 = some [.sl 3 []] := by kernel_rfl
theorem elt_34 : elt Try.prog 34 = some (100, 3) := by kernel_rfl
theorem apf_34 : apf Try.prog 34 = some (1, 24) := by kernel_rfl
theorem tyc_35 : tyc Try.prog 35 = some (true, 3) := by kernel_rfl
theorem zer_35 : zer Try.prog 35 = some [Go.Value.slice none 0 0, Go.Value.slice none 0 0, Go.Value.slice none 0 0] := by kernel_rfl
theorem zds_35 : zds Try.prog 35 = some [.v (Go.Value.slice none 0 0), .v (Go.Value.slice none 0 0), .v (Go.Value.slice none 0 0)] := by kernel_rfl
theorem fld_35_0 : fld Try.prog 35 0 = some (0, 33) := by kernel_rfl
theorem fld_35_1 : fld Try.prog 35 1 = some (1, 33) := by kernel_rfl
theorem fld_35_2 : fld Try.prog 35 2 = some (2, 34) := by kernel_rfl
theorem stf_35 : stf Try.prog 35 = some [(0, 1), (1, 1), (2, 1)] := by kernel_rfl
theorem arr_35 : arr Try.prog 35 = none := by kernel_rfl
theorem apf_35 : apf Try.prog 35 = some (3, 72) := by kernel_rfl
theorem tyc_36 : tyc Try.prog 36 = some (true, 3) := by kernel_rfl
theorem zer_36 : zer Try.prog 36 = some [Go.Value.slice none 0 0, Go.Value.slice none 0 0, Go.Value.slice none 0 0] := by kernel_rfl
theorem zds_36 : zds Try.prog 36 = some [.v (Go.Value.slice none 0 0), .v (Go.Value.slice none 0 0), .v (Go.Value.slice none 0 0)] := by kernel_rfl
theorem fld_36_0 : fld Try.prog 36 0 = some (0, 33) := by kernel_rfl
theorem fld_36_1 : fld Try.prog 36 1 = some (1, 33) := by kernel_rfl
theorem fld_36_2 : fld Try.prog 36 2 = some (2, 34) := by kernel_rfl
theorem stf_36 : stf Try.prog 36 = some [(0, 1), (1, 1), (2, 1)] := by kernel_rfl
theorem arr_36 : arr Try.prog 36 = none := by kernel_rfl
theorem apf_36 : apf Try.prog 36 = some (3, 72) := by kernel_rfl
theorem tyc_39 : tyc Try.prog 39 = some (false, 1) := by kernel_rfl
theorem zer_39 : zer Try.prog 39 = some [Go.Value.int Go.IntKind.i64 0] := by kernel_rfl
theorem zds_39 : zds Try.prog 39 = some [.v (Go.Value.int Go.IntKind.i64 0)] := by kernel_rfl
theorem und_39 : Try.prog.underlying 39 = some (.int .i64) := by kernel_rfl
theorem apf_39 : apf Try.prog 39 = some (1, 8) := by kernel_rfl
theorem tyc_43 : tyc Try.prog 43 = some (true, 2) := by kernel_rfl
theorem zer_43 : zer Try.prog 43 = some [Go.Value.int Go.IntKind.i64 0, Go.Value.int Go.IntKind.i64 0] := by kernel_rfl
theorem zds_43 : zds Try.prog 43 = some [.v (Go.Value.int Go.IntKind.i64 0), .v (Go.Value.int Go.IntKind.i64 0)] := by kernel_rfl
theorem fld_43_0 : fld Try.prog 43 0 = some (0, 3) := by kernel_rfl
theorem fld_43_1 : fld Try.prog 43 1 = some (1, 3) := by kernel_rfl
theorem stf_43 : stf Try.prog 43 = some [(0, 1), (1, 1)] := by kernel_rfl
theorem arr_43 : arr Try.prog 43 = none := by kernel_rfl
theorem apf_43 : apf Try.prog 43 = some (2, 16) := by kernel_rfl
theorem tyc_44 : tyc Try.prog 44 = some (true, 2) := by kernel_rfl
theorem zer_44 : zer Try.prog 44 = some [Go.Value.int Go.IntKind.i64 0, Go.Value.int Go.IntKind.i64 0] := by kernel_rfl
theorem zds_44 : zds Try.prog 44 = some [.v (Go.Value.int Go.IntKind.i64 0), .v (Go.Value.int Go.IntKind.i64 0)] := by kernel_rfl
theorem fld_44_0 : fld Try.prog 44 0 = some (0, 3) := by kernel_rfl
theorem fld_44_1 : fld Try.prog 44 1 = some (1, 3) := by kernel_rfl
theorem stf_44 : stf Try.prog 44 = some [(0, 1), (1, 1)] := by kernel_rfl
theorem arr_44 : arr Try.prog 44 = none := by kernel_rfl
theorem apf_44 : apf Try.prog 44 = some (2, 16) := by kernel_rfl
theorem tyc_45 : tyc Try.prog 45 = some (true, 4) := by kernel_rfl
theorem zer_45 : zer Try.prog 45 = some [Go.Value.int Go.IntKind.i64 0, Go.Value.int Go.IntKind.i64 0, Go.Value.int Go.IntKind.i64 0, Go.Value.int Go.IntKind.i64 0] := by kernel_rfl
theorem zds_45 : zds Try.prog 45 = some [.v (Go.Value.int Go.IntKind.i64 0), .v (Go.Value.int Go.IntKind.i64 0), .v (Go.Value.int Go.IntKind.i64 0), .v (Go.Value.int Go.IntKind.i64 0)] := by kernel_rfl
theorem arr_45 : arr Try.prog 45 = some (4, 3, 1) := by kernel_rfl
theorem stf_45 : stf Try.prog 45 = none := by kernel_rfl
theorem apf_45 : apf Try.prog 45 = some (4, 32) := by kernel_rfl
theorem tyc_57 : tyc Try.prog 57 = some (false, 1) := by kernel_rfl
theorem zer_57 : zer Try.prog 57 = some [Go.Value.slice none 0 0] := by kernel_rfl
theorem zds_57 : zds Try.prog 57 = some [.sl 2 []] := by kernel_rfl
theorem elt_57 : elt Try.prog 57 = some (76, 2) := by kernel_rfl
theorem apf_57 : apf Try.prog 57 = some (1, 24) := by kernel_rfl
theorem tyc_59 : tyc Try.prog 59 = some (true, 3) := by kernel_rfl
theorem zer_59 : zer Try.prog 59 = some [Go.Value.slice none 0 0, Go.Value.slice none 0 0, Go.Value.slice none 0 0] := by kernel_rfl
theorem zds_59 : zds Try.prog 59 = some [.v (Go.Value.slice none 0 0), .v (Go.Value.slice none 0 0), .v (Go.Value.slice none 0 0)] := by kernel_rfl
theorem fld_59_0 : fld Try.prog 59 0 = some (0, 33) := by kernel_rfl
theorem fld_59_1 : fld Try.prog 59 1 = some (1, 33) := by kernel_rfl
theorem fld_59_2 : fld Try.prog 59 2 = some (2, 28) := by kernel_rfl
theorem stf_59 : stf Try.prog 59 = some [(0, 1), (1, 1), (2, 1)] := by kernel_rfl
theorem arr_59 : arr Try.prog 59 = none := by kernel_rfl
theorem apf_59 : apf Try.prog 59 = some (3, 72) := by kernel_rfl
theorem tyc_60 : tyc Try.prog 60 = some (true, 3) := by kernel_rfl
theorem zer_60 : zer Try.prog 60 = some [Go.Value.slice none 0 0, Go.Value.slice none 0 0, Go.Value.slice none 0 0] := by kernel_rfl
theorem zds_60 : zds Try.prog 60 = some [.v (Go.Value.slice none 0 0), .v (Go.Value.slice none 0 0), .v (Go.Value.slice none 0 0)] := by kernel_rfl
theorem fld_60_0 : fld Try.prog 60 0 = some (0, 33) := by kernel_rfl
theorem fld_60_1 : fld Try.prog 60 1 = some (1, 33) := by kernel_rfl
theorem fld_60_2 : fld Try.prog 60 2 = some (2, 28) := by kernel_rfl
theorem stf_60 : stf Try.prog 60 = some [(0, 1), (1, 1), (2, 1)] := by kernel_rfl
theorem arr_60 : arr Try.prog 60 = none := by kernel_rfl
theorem apf_60 : apf Try.prog 60 = some (3, 72) := by kernel_rfl
theorem tyc_75 : tyc Try.prog 75 = some (true, 2) := by kernel_rfl
theorem zer_75 : zer Try.prog 75 = some [Go.Value.int Go.IntKind.i64 0, Go.Value.int Go.IntKind.i64 0] := by kernel_rfl
theorem zds_75 : zds Try.prog 75 = some [.v (Go.Value.int Go.IntKind.i64 0), .v (Go.Value.int Go.IntKind.i64 0)] := by kernel_rfl
theorem fld_75_0 : fld Try.prog 75 0 = some (0, 3) := by kernel_rfl
theorem fld_75_1 : fld Try.prog 75 1 = some (1, 3) := by kernel_rfl
theorem stf_75 : stf Try.prog 75 = some [(0, 1), (1, 1)] := by kernel_rfl
theorem arr_75 : arr Try.prog 75 = none := by kernel_rfl
theorem apf_75 : apf Try.prog 75 = some (2, 16) := by kernel_rfl
theorem tyc_76 : tyc Try.prog 76 = some (true, 2) := by kernel_rfl
theorem zer_76 : zer Try.prog 76 = some [Go.Value.int Go.IntKind.i64 0, Go.Value.int Go.IntKind.i64 0] := by kernel_rfl
theorem zds_76 : zds Try.prog 76 = some [.v (Go.Value.int Go.IntKind.i64 0), .v (Go.Value.int Go.IntKind.i64 0)] := by kernel_rfl
theorem fld_76_0 : fld Try.prog 76 0 = some (0, 3) := by kernel_rfl
theorem fld_76_1 : fld Try.prog 76 1 = some (1, 3) := by kernel_rfl
theorem stf_76 : stf Try.prog 76 = some [(0, 1), (1, 1)] := by kernel_rfl
theorem arr_76 : arr Try.prog 76 = none := by kernel_rfl
theorem apf_76 : apf Try.prog 76 = some (2, 16) := by kernel_rfl
theorem tyc_86 : tyc Try.prog 86 = some (false, 1) := by kernel_rfl
theorem zer_86 : zer Try.prog 86 = some [Go.Value.slice none 0 0] := by kernel_rfl
theorem zds_86 : zds Try.prog 86 = some [.sl 1 []] := by kernel_rfl
theorem elt_86 : elt Try.prog 86 = some (5, 1) := by kernel_rfl
theorem apf_86 : apf Try.prog 86 = some (1, 24) := by kernel_rfl
theorem tyc_97 : tyc Try.prog 97 = some (true, 2) := by kernel_rfl
theorem zer_97 : zer Try.prog 97 = some [Go.Value.int Go.IntKind.u8 0, Go.Value.int Go.IntKind.u8 0] := by kernel_rfl
theorem zds_97 : zds Try.prog 97 = some [.v (Go.Value.int Go.IntKind.u8 0), .v (Go.Value.int Go.IntKind.u8 0)] := by kernel_rfl
theorem arr_97 : arr Try.prog 97 = some (2, 5, 1) := by kernel_rfl
theorem stf_97 : stf Try.prog 97 = none := by kernel_rfl
theorem apf_97 : apf Try.prog 97 = some (2, 2) := by kernel_rfl
theorem tyc_98 : tyc Try.prog 98 = some (true, 6) := by kernel_rfl
theorem zer_98 : zer Try.prog 98 = some [Go.Value.int Go.IntKind.i64 0, Go.Value.int Go.IntKind.i64 0, Go.Value.int Go.IntKind.i64 0, Go.Value.int Go.IntKind.i64 0, Go.Value.int Go.IntKind.i64 0, Go.Value.int Go.IntKind.i64 0] := by kernel_rfl
theorem zds_98 : zds Try.prog 98 = some [.v (Go.Value.int Go.IntKind.i64 0), .v (Go.Value.int Go.IntKind.i64 0), .v (Go.Value.int Go.IntKind.i64 0), .v (Go.Value.int Go.IntKind.i64 0), .v (Go.Value.int Go.IntKind.i64 0), .v (Go.Value.int Go.IntKind.i64 0)] := by kernel_rfl
theorem fld_98_0 : fld Try.prog 98 0 = some (0, 44) := by kernel_rfl
theorem fld_98_1 : fld Try.prog 98 1 = some (2, 44) := by kernel_rfl
theorem fld_98_2 : fld Try.prog 98 2 = some (4, 44) := by kernel_rfl
theorem stf_98 : stf Try.prog 98 = some [(0, 2), (2, 2), (4, 2)] := by kernel_rfl
theorem arr_98 : arr Try.prog 98 = none := by kernel_rfl
theorem apf_98 : apf Try.prog 98 = some (6, 48) := by kernel_rfl
theorem tyc_99 : tyc Try.prog 99 = some (true, 6) := by kernel_rfl
theorem zer_99 : zer Try.prog 99 = some [Go.Value.int Go.IntKind.i64 0, Go.Value.int Go.IntKind.i64 0, Go.Value.int Go.IntKind.i64 0, Go.Value.int Go.IntKind.i64 0, Go.Value.int Go.IntKind.i64 0, Go.Value.int Go.IntKind.i64 0] := by kernel_rfl
theorem zds_99 : zds Try.prog 99 = some [.v (Go.Value.int Go.IntKind.i64 0), .v (Go.Value.int Go.IntKind.i64 0), .v (Go.Value.int Go.IntKind.i64 0), .v (Go.Value.int Go.IntKind.i64 0), .v (Go.Value.int Go.IntKind.i64 0), .v (Go.Value.int Go.IntKind.i64 0)] := by kernel_rfl
theorem fld_99_0 : fld Try.prog 99 0 = some (0, 44) := by kernel_rfl
theorem fld_99_1 : fld Try.prog 99 1 = some (2, 44) := by kernel_rfl
theorem fld_99_2 : fld Try.prog 99 2 = some (4, 44) := by kernel_rfl
theorem stf_99 : stf Try.prog 99 = some [(0, 2), (2, 2), (4, 2)] := by kernel_rfl
theorem arr_99 : arr Try.prog 99 = none := by kernel_rfl
theorem apf_99 : apf Try.prog 99 = some (6, 48) := by kernel_rfl
theorem tyc_100 : tyc Try.prog 100 = some (true, 3) := by kernel_rfl
theorem zer_100 : zer Try.prog 100 = some [Go.Value.int Go.IntKind.i64 0, Go.Value.int Go.IntKind.i64 0, Go.Value.int Go.IntKind.i64 0] := by kernel_rfl
theorem zds_100 : zds Try.prog 100 = some [.v (Go.Value.int Go.IntKind.i64 0), .v (Go.Value.int Go.IntKind.i64 0), .v (Go.Value.int Go.IntKind.i64 0)] := by kernel_rfl
theorem arr_100 : arr Try.prog 100 = some (3, 3, 1) := by kernel_rfl
theorem stf_100 : stf Try.prog 100 = none := by kernel_rfl
theorem apf_100 : apf Try.prog 100 = some (3, 24) := by kernel_rfl
theorem tyc_103 : tyc Try.prog 103 = some (true, 6) := by kernel_rfl
theorem zer_103 : zer Try.prog 103 = some [Go.Value.slice none 0 0, Go.Value.slice none 0 0, Go.Value.int Go.IntKind.i64 0, Go.Value.slice none 0 0, Go.Value.slice none 0 0, Go.Value.slice none 0 0] := by kernel_rfl
theorem zds_103 : zds Try.prog 103 = some [.v (Go.Value.slice none 0 0), .v (Go.Value.slice none 0 0), .v (Go.Value.int Go.IntKind.i64 0), .v (Go.Value.slice none 0 0), .v (Go.Value.slice none 0 0), .v (Go.Value.slice none 0 0)] := by kernel_rfl
theorem fld_103_0 : fld Try.prog 103 0 = some (0, 30) := by kernel_rfl
theorem fld_103_1 : fld Try.prog 103 1 = some (4, 27) := by kernel_rfl
theorem fld_103_2 : fld Try.prog 103 2 = some (5, 27) := by kernel_rfl
theorem stf_103 : stf Try.prog 103 = some [(0, 4), (4, 1), (5, 1)] := by kernel_rfl
theorem arr_103 : arr Try.prog 103 = none := by kernel_rfl
theorem apf_103 : apf Try.prog 103 = some (6, 128) := by kernel_rfl
theorem tyc_104 : tyc Try.prog 104 = some (true, 6) := by kernel_rfl
theorem zer_104 : zer Try.prog 104 = some [Go.Value.slice none 0 0, Go.Value.slice none 0 0, Go.Value.int Go.IntKind.i64 0, Go.Value.slice none 0 0, Go.Value.slice none 0 0, Go.Value.slice none 0 0] := by kernel_rfl
theorem zds_104 : zds Try.prog 104 = some [.v (Go.Value.slice none 0 0), .v (Go.Value.slice none 0 0), .v (Go.Value.int Go.IntKind.i64 0), .v (Go.Value.slice none 0 0), .v (Go.Value.slice none 0 0), .v (Go.Value.slice none 0 0)] := by kernel_rfl
theorem fld_104_0 : fld Try.prog 104 0 = some (0, 30) := by kernel_rfl
theorem fld_104_1 : fld Try.prog 104 1 = some (4, 27) := by kernel_rfl
theorem fld_104_2 : fld Try.prog 104 2 = some (5, 27) := by kernel_rfl
theorem stf_104 : stf Try.prog 104 = some [(0, 4), (4, 1), (5, 1)] := by kernel_rfl
theorem arr_104 : arr Try.prog 104 = none := by kernel_rfl
theorem apf_104 : apf Try.prog 104 = some (6, 128) := by kernel_rfl
theorem tyc_111 : tyc Try.prog 111 = some (false, 1) := by kernel_rfl
theorem zer_111 : zer Try.prog 111 = some [Go.Value.slice none 0 0] := by kernel_rfl
theorem zds_111 : zds Try.prog 111 = some [.sl 4 []] := by kernel_rfl
theorem elt_111 : elt Try.prog 111 = some (118, 4) := by kernel_rfl
theorem apf_111 : apf Try.prog 111 = some (1, 24) := by kernel_rfl
theorem tyc_112 : tyc Try.prog 112 = some (true, 3) := by kernel_rfl
theorem zer_112 : zer Try.prog 112 = some [Go.Value.slice none 0 0, Go.Value.slice none 0 0, Go.Value.slice none 0 0] := by kernel_rfl
theorem zds_112 : zds Try.prog 112 = some [.v (Go.Value.slice none 0 0), .v (Go.Value.slice none 0 0), .v (Go.Value.slice none 0 0)] := by kernel_rfl
theorem fld_112_0 : fld Try.prog 112 0 = some (0, 33) := by kernel_rfl
theorem fld_112_1 : fld Try.prog 112 1 = some (1, 33) := by kernel_rfl
theorem fld_112_2 : fld Try.prog 112 2 = some (2, 111) := by kernel_rfl
theorem stf_112 : stf Try.prog 112 = some [(0, 1), (1, 1), (2, 1)] := by kernel_rfl
theorem arr_112 : arr Try.prog 112 = none := by kernel_rfl
theorem apf_112 : apf Try.prog 112 = some (3, 72) := by kernel_rfl
theorem tyc_113 : tyc Try.prog 113 = some (true, 3) := by kernel_rfl
theorem zer_113 : zer Try.prog 113 = some [Go.Value.slice none 0 0, Go.Value.slice none 0 0, Go.Value.slice none 0 0] := by kernel_rfl
theorem zds_113 : zds Try.prog 113 = some [.v (Go.Value.slice none 0 0), .v (Go.Value.slice none 0 0), .v (Go.Value.slice none 0 0)] := by kernel_rfl
theorem fld_113_0 : fld Try.prog 113 0 = some (0, 33) := by kernel_rfl
theorem fld_113_1 : fld Try.prog 113 1 = some (1, 33) := by kernel_rfl
theorem fld_113_2 : fld Try.prog 113 2 = some (2, 111) := by kernel_rfl
theorem stf_113 : stf Try.prog 113 = some [(0, 1), (1, 1), (2, 1)] := by kernel_rfl
theorem arr_113 : arr Try.prog 113 = none := by kernel_rfl
theorem apf_113 : apf Try.prog 113 = some (3, 72) := by kernel_rfl
theorem tyc_117 : tyc Try.prog 117 = some (true, 4) := by kernel_rfl
theorem zer_117 : zer Try.prog 117 = some [Go.Value.int Go.IntKind.i64 0, Go.Value.int Go.IntKind.i64 0, Go.Value.int Go.IntKind.i64 0, Go.Value.int Go.IntKind.i64 0] := by kernel_rfl
theorem zds_117 : zds Try.prog 117 = some [.v (Go.Value.int Go.IntKind.i64 0), .v (Go.Value.int Go.IntKind.i64 0), .v (Go.Value.int Go.IntKind.i64 0), .v (Go.Value.int Go.IntKind.i64 0)] := by kernel_rfl
theorem fld_117_0 : fld Try.prog 117 0 = some (0, 44) := by kernel_rfl
theorem fld_117_1 : fld Try.prog 117 1 = some (2, 44) := by kernel_rfl
theorem stf_117 : stf Try.prog 117 = some [(0, 2), (2, 2)] := by kernel_rfl
theorem arr_117 : arr Try.prog 117 = none := by kernel_rfl
theorem apf_117 : apf Try.prog 117 = some (4, 32) := by kernel_rfl
theorem tyc_118 : tyc Try.prog 118 = some (true, 4) := by kernel_rfl
theorem zer_118 : zer Try.prog 118 = some [Go.Value.int Go.IntKind.i64 0, Go.Value.int Go.IntKind.i64 0, Go.Value.int Go.IntKind.i64 0, Go.Value.int Go.IntKind.i64 0] := by kernel_rfl
theorem zds_118 : zds Try.prog 118 = some [.v (Go.Value.int Go.IntKind.i64 0), .v (Go.Value.int Go.IntKind.i64 0), .v (Go.Value.int Go.IntKind.i64 0), .v (Go.Value.int Go.IntKind.i64 0)] := by kernel_rfl
theorem fld_118_0 : fld Try.prog 118 0 = some (0, 44) := by kernel_rfl
theorem fld_118_1 : fld Try.prog 118 1 = some (2, 44) := by kernel_rfl
theorem stf_118 : stf Try.prog 118 = some [(0, 2), (2, 2)] := by kernel_rfl
theorem arr_118 : arr Try.prog 118 = none := by kernel_rfl
theorem apf_118 : apf Try.prog 118 = some (4, 32) := by kernel_rfl
theorem tyc_122 : tyc Try.prog 122 = some (false, 1) := by kernel_rfl
theorem zer_122 : zer Try.prog 122 = some [Go.Value.slice none 0 0] := by kernel_rfl
theorem zds_122 : zds Try.prog 122 = some [.sl 1 []] := by kernel_rfl
theorem elt_122 : elt Try.prog 122 = some (57, 1) := by kernel_rfl
theorem apf_122 : apf Try.prog 122 = some (1, 24) := by kernel_rfl
theorem tyc_128 : tyc Try.prog 128 = some (false, 1) := by kernel_rfl
theorem zer_128 : zer Try.prog 128 = some [Go.Value.slice none 0 0] := by kernel_rfl
theorem zds_128 : zds Try.prog 128 = some [.sl 1 []] := by kernel_rfl
theorem elt_128 : elt Try.prog 128 = some (33, 1) := by kernel_rfl
theorem apf_128 : apf Try.prog 128 = some (1, 24) := by kernel_rfl
theorem tyc_141 : tyc Try.prog 141 = some (true, 6) := by kernel_rfl
theorem zer_141 : zer Try.prog 141 = some [Go.Value.int Go.IntKind.u8 0, Go.Value.int Go.IntKind.u8 0, Go.Value.int Go.IntKind.u8 0, Go.Value.int Go.IntKind.u8 0, Go.Value.int Go.IntKind.u8 0, Go.Value.int Go.IntKind.u8 0] := by kernel_rfl
theorem zds_141 : zds Try.prog 141 = some [.v (Go.Value.int Go.IntKind.u8 0), .v (Go.Value.int Go.IntKind.u8 0), .v (Go.Value.int Go.IntKind.u8 0), .v (Go.Value.int Go.IntKind.u8 0), .v (Go.Value.int Go.IntKind.u8 0), .v (Go.Value.int Go.IntKind.u8 0)] := by kernel_rfl
theorem arr_141 : arr Try.prog 141 = some (6, 5, 1) := by kernel_rfl
theorem stf_141 : stf Try.prog 141 = none := by kernel_rfl
theorem apf_141 : apf Try.prog 141 = some (6, 6) := by kernel_rfl
theorem tyc_146 : tyc Try.prog 146 = some (false, 1) := by kernel_rfl
theorem zer_146 : zer Try.prog 146 = some [Go.Value.map none] := by kernel_rfl
theorem zds_146 : zds Try.prog 146 = some [.v (Go.Value.map none)] := by kernel_rfl
theorem mpt_146 : mpt Try.prog 146 = some (.i64, 33) := by kernel_rfl
theorem apf_146 : apf Try.prog 146 = some (1, 8) := by kernel_rfl
theorem tyc_147 : tyc Try.prog 147 = some (false, 1) := by kernel_rfl
theorem zer_147 : zer Try.prog 147 = some [Go.Value.slice none 0 0] := by kernel_rfl
theorem zds_147 : zds Try.prog 147 = some [.sl 1 []] := by kernel_rfl
theorem elt_147 : elt Try.prog 147 = some (111, 1) := by kernel_rfl
theorem apf_147 : apf Try.prog 147 = some (1, 24) := by kernel_rfl
theorem tyc_151 : tyc Try.prog 151 = some (false, 1) := by kernel_rfl
theorem zer_151 : zer Try.prog 151 = some [Go.Value.slice none 0 0] := by kernel_rfl
theorem zds_151 : zds Try.prog 151 = some [.sl 1 []] := by kernel_rfl
theorem elt_151 : elt Try.prog 151 = some (4, 1) := by kernel_rfl
theorem apf_151 : apf Try.prog 151 = some (1, 24) := by kernel_rfl
theorem tyc_152 : tyc Try.prog 152 = some (false, 1) := by kernel_rfl
theorem zer_152 : zer Try.prog 152 = some [Go.Value.slice none 0 0] := by kernel_rfl
theorem zds_152 : zds Try.prog 152 = some [.sl 1 []] := by kernel_rfl
theorem elt_152 : elt Try.prog 152 = some (151, 1) := by kernel_rfl
theorem apf_152 : apf Try.prog 152 = some (1, 24) := by kernel_rfl
theorem tyc_171 : tyc Try.prog 171 = some (true, 4) := by kernel_rfl
theorem zer_171 : zer Try.prog 171 = some [Go.Value.pointer none, Go.Value.pointer none, Go.Value.pointer none, Go.Value.string { data := #[] }] := by kernel_rfl
theorem zds_171 : zds Try.prog 171 = some [.v (Go.Value.pointer none), .v (Go.Value.pointer none), .v (Go.Value.pointer none), .v (Go.Value.string { data := #[] })] := by kernel_rfl
theorem fld_171_0 : fld Try.prog 171 0 = some (0, 17) := by kernel_rfl
theorem fld_171_1 : fld Try.prog 171 1 = some (1, 17) := by kernel_rfl
theorem fld_171_2 : fld Try.prog 171 2 = some (2, 17) := by kernel_rfl
theorem fld_171_3 : fld Try.prog 171 3 = some (3, 9) := by kernel_rfl
theorem stf_171 : stf Try.prog 171 = some [(0, 1), (1, 1), (2, 1), (3, 1)] := by kernel_rfl
theorem arr_171 : arr Try.prog 171 = none := by kernel_rfl
theorem apf_171 : apf Try.prog 171 = some (4, 40) := by kernel_rfl
theorem tyc_172 : tyc Try.prog 172 = some (true, 4) := by kernel_rfl
theorem zer_172 : zer Try.prog 172 = some [Go.Value.pointer none, Go.Value.pointer none, Go.Value.pointer none, Go.Value.string { data := #[] }] := by kernel_rfl
theorem zds_172 : zds Try.prog 172 = some [.v (Go.Value.pointer none), .v (Go.Value.pointer none), .v (Go.Value.pointer none), .v (Go.Value.string { data := #[] })] := by kernel_rfl
theorem fld_172_0 : fld Try.prog 172 0 = some (0, 17) := by kernel_rfl
theorem fld_172_1 : fld Try.prog 172 1 = some (1, 17) := by kernel_rfl
theorem fld_172_2 : fld Try.prog 172 2 = some (2, 17) := by kernel_rfl
theorem fld_172_3 : fld Try.prog 172 3 = some (3, 9) := by kernel_rfl
theorem stf_172 : stf Try.prog 172 = some [(0, 1), (1, 1), (2, 1), (3, 1)] := by kernel_rfl
theorem arr_172 : arr Try.prog 172 = none := by kernel_rfl
theorem apf_172 : apf Try.prog 172 = some (4, 40) := by kernel_rfl
theorem tyc_173 : tyc Try.prog 173 = some (true, 0) := by kernel_rfl
theorem zer_173 : zer Try.prog 173 = some [] := by kernel_rfl
theorem zds_173 : zds Try.prog 173 = some [] := by kernel_rfl
theorem arr_173 : arr Try.prog 173 = some (0, 16, 1) := by kernel_rfl
theorem stf_173 : stf Try.prog 173 = none := by kernel_rfl
theorem tyc_174 : tyc Try.prog 174 = some (true, 0) := by kernel_rfl
theorem zer_174 : zer Try.prog 174 = some [] := by kernel_rfl
theorem zds_174 : zds Try.prog 174 = some [] := by kernel_rfl
theorem stf_174 : stf Try.prog 174 = some [(0, 0)] := by kernel_rfl
theorem arr_174 : arr Try.prog 174 = none := by kernel_rfl
theorem tyc_175 : tyc Try.prog 175 = some (true, 0) := by kernel_rfl
theorem zer_175 : zer Try.prog 175 = some [] := by kernel_rfl
theorem zds_175 : zds Try.prog 175 = some [] := by kernel_rfl
theorem stf_175 : stf Try.prog 175 = some [(0, 0)] := by kernel_rfl
theorem arr_175 : arr Try.prog 175 = none := by kernel_rfl
theorem tyc_177 : tyc Try.prog 177 = some (false, 1) := by kernel_rfl
theorem zer_177 : zer Try.prog 177 = some [Go.Value.int Go.IntKind.u32 0] := by kernel_rfl
theorem zds_177 : zds Try.prog 177 = some [.v (Go.Value.int Go.IntKind.u32 0)] := by kernel_rfl
theorem und_177 : Try.prog.underlying 177 = some (.int .u32) := by kernel_rfl
theorem apf_177 : apf Try.prog 177 = some (1, 4) := by kernel_rfl
theorem tyc_178 : tyc Try.prog 178 = some (false, 1) := by kernel_rfl
theorem zer_178 : zer Try.prog 178 = some [Go.Value.int Go.IntKind.u8 0] := by kernel_rfl
theorem zds_178 : zds Try.prog 178 = some [.v (Go.Value.int Go.IntKind.u8 0)] := by kernel_rfl
theorem und_178 : Try.prog.underlying 178 = some (.int .u8) := by kernel_rfl
theorem apf_178 : apf Try.prog 178 = some (1, 1) := by kernel_rfl
theorem tyc_179 : tyc Try.prog 179 = some (false, 1) := by kernel_rfl
theorem zer_179 : zer Try.prog 179 = some [Go.Value.int Go.IntKind.u8 0] := by kernel_rfl
theorem zds_179 : zds Try.prog 179 = some [.v (Go.Value.int Go.IntKind.u8 0)] := by kernel_rfl
theorem und_179 : Try.prog.underlying 179 = some (.int .u8) := by kernel_rfl
theorem apf_179 : apf Try.prog 179 = some (1, 1) := by kernel_rfl
theorem tyc_181 : tyc Try.prog 181 = some (false, 1) := by kernel_rfl
theorem zer_181 : zer Try.prog 181 = some [Go.Value.pointer none] := by kernel_rfl
theorem zds_181 : zds Try.prog 181 = some [.v (Go.Value.pointer none)] := by kernel_rfl
theorem apf_181 : apf Try.prog 181 = some (1, 8) := by kernel_rfl
theorem tyc_182 : tyc Try.prog 182 = some (false, 1) := by kernel_rfl
theorem zer_182 : zer Try.prog 182 = some [Go.Value.int Go.IntKind.i32 0] := by kernel_rfl
theorem zds_182 : zds Try.prog 182 = some [.v (Go.Value.int Go.IntKind.i32 0)] := by kernel_rfl
theorem und_182 : Try.prog.underlying 182 = some (.int .i32) := by kernel_rfl
theorem apf_182 : apf Try.prog 182 = some (1, 4) := by kernel_rfl
theorem tyc_183 : tyc Try.prog 183 = some (false, 1) := by kernel_rfl
theorem zer_183 : zer Try.prog 183 = some [Go.Value.int Go.IntKind.i32 0] := by kernel_rfl
theorem zds_183 : zds Try.prog 183 = some [.v (Go.Value.int Go.IntKind.i32 0)] := by kernel_rfl
theorem und_183 : Try.prog.underlying 183 = some (.int .i32) := by kernel_rfl
theorem apf_183 : apf Try.prog 183 = some (1, 4) := by kernel_rfl
theorem tyc_184 : tyc Try.prog 184 = some (true, 11) := by kernel_rfl
theorem zer_184 : zer Try.prog 184 = some [Go.Value.int Go.IntKind.u64 0, Go.Value.int Go.IntKind.u64 0, Go.Value.int Go.IntKind.u32 0, Go.Value.int Go.IntKind.u8 0, Go.Value.int Go.IntKind.u8 0, Go.Value.int Go.IntKind.u8 0, Go.Value.int Go.IntKind.u8 0, Go.Value.nilFunc, Go.Value.pointer none, Go.Value.int Go.IntKind.i32 0, Go.Value.int Go.IntKind.i32 0] := by kernel_rfl
theorem zds_184 : zds Try.prog 184 = some [.v (Go.Value.int Go.IntKind.u64 0), .v (Go.Value.int Go.IntKind.u64 0), .v (Go.Value.int Go.IntKind.u32 0), .v (Go.Value.int Go.IntKind.u8 0), .v (Go.Value.int Go.IntKind.u8 0), .v (Go.Value.int Go.IntKind.u8 0), .v (Go.Value.int Go.IntKind.u8 0), .v (Go.Value.nilFunc), .v (Go.Value.pointer none), .v (Go.Value.int Go.IntKind.i32 0), .v (Go.Value.int Go.IntKind.i32 0)] := by kernel_rfl
theorem fld_184_0 : fld Try.prog 184 0 = some (0, 12) := by kernel_rfl
theorem fld_184_1 : fld Try.prog 184 1 = some (1, 12) := by kernel_rfl
theorem fld_184_2 : fld Try.prog 184 2 = some (2, 177) := by kernel_rfl
theorem fld_184_3 : fld Try.prog 184 3 = some (3, 178) := by kernel_rfl
theorem fld_184_4 : fld Try.prog 184 4 = some (4, 5) := by kernel_rfl
theorem fld_184_5 : fld Try.prog 184 5 = some (5, 5) := by kernel_rfl
theorem fld_184_6 : fld Try.prog 184 6 = some (6, 179) := by kernel_rfl
theorem fld_184_7 : fld Try.prog 184 7 = some (7, 180) := by kernel_rfl
theorem fld_184_8 : fld Try.prog 184 8 = some (8, 181) := by kernel_rfl
theorem fld_184_9 : fld Try.prog 184 9 = some (9, 182) := by kernel_rfl
theorem fld_184_10 : fld Try.prog 184 10 = some (10, 183) := by kernel_rfl
theorem stf_184 : stf Try.prog 184 = some [(0, 1), (1, 1), (2, 1), (3, 1), (4, 1), (5, 1), (6, 1), (7, 1), (8, 1), (9, 1), (10, 1)] := by kernel_rfl
theorem arr_184 : arr Try.prog 184 = none := by kernel_rfl
theorem apf_184 : apf Try.prog 184 = some (11, 48) := by kernel_rfl
theorem tyc_185 : tyc Try.prog 185 = some (true, 11) := by kernel_rfl
theorem zer_185 : zer Try.prog 185 = some [Go.Value.int Go.IntKind.u64 0, Go.Value.int Go.IntKind.u64 0, Go.Value.int Go.IntKind.u32 0, Go.Value.int Go.IntKind.u8 0, Go.Value.int Go.IntKind.u8 0, Go.Value.int Go.IntKind.u8 0, Go.Value.int Go.IntKind.u8 0, Go.Value.nilFunc, Go.Value.pointer none, Go.Value.int Go.IntKind.i32 0, Go.Value.int Go.IntKind.i32 0] := by kernel_rfl
theorem zds_185 : zds Try.prog 185 = some [.v (Go.Value.int Go.IntKind.u64 0), .v (Go.Value.int Go.IntKind.u64 0), .v (Go.Value.int Go.IntKind.u32 0), .v (Go.Value.int Go.IntKind.u8 0), .v (Go.Value.int Go.IntKind.u8 0), .v (Go.Value.int Go.IntKind.u8 0), .v (Go.Value.int Go.IntKind.u8 0), .v (Go.Value.nilFunc), .v (Go.Value.pointer none), .v (Go.Value.int Go.IntKind.i32 0), .v (Go.Value.int Go.IntKind.i32 0)] := by kernel_rfl
theorem fld_185_0 : fld Try.prog 185 0 = some (0, 12) := by kernel_rfl
theorem fld_185_1 : fld Try.prog 185 1 = some (1, 12) := by kernel_rfl
theorem fld_185_2 : fld Try.prog 185 2 = some (2, 177) := by kernel_rfl
theorem fld_185_3 : fld Try.prog 185 3 = some (3, 178) := by kernel_rfl
theorem fld_185_4 : fld Try.prog 185 4 = some (4, 5) := by kernel_rfl
theorem fld_185_5 : fld Try.prog 185 5 = some (5, 5) := by kernel_rfl
theorem fld_185_6 : fld Try.prog 185 6 = some (6, 179) := by kernel_rfl
theorem fld_185_7 : fld Try.prog 185 7 = some (7, 180) := by kernel_rfl
theorem fld_185_8 : fld Try.prog 185 8 = some (8, 181) := by kernel_rfl
theorem fld_185_9 : fld Try.prog 185 9 = some (9, 182) := by kernel_rfl
theorem fld_185_10 : fld Try.prog 185 10 = some (10, 183) := by kernel_rfl
theorem stf_185 : stf Try.prog 185 = some [(0, 1), (1, 1), (2, 1), (3, 1), (4, 1), (5, 1), (6, 1), (7, 1), (8, 1), (9, 1), (10, 1)] := by kernel_rfl
theorem arr_185 : arr Try.prog 185 = none := by kernel_rfl
theorem apf_185 : apf Try.prog 185 = some (11, 48) := by kernel_rfl
theorem zro_33 : zro Try.prog 33 = some (Go.Value.slice none 0 0) := by kernel_rfl
theorem fun_0 : Try.prog.funcs[0]? = some Try.f0 := by kernel_rfl
theorem fun_1 : Try.prog.funcs[1]? = some Try.f1 := by kernel_rfl
theorem fun_2 : Try.prog.funcs[2]? = some Try.f2 := by kernel_rfl
theorem fun_3 : Try.prog.funcs[3]? = some Try.f3 := by kernel_rfl
theorem fun_4 : Try.prog.funcs[4]? = some Try.f4 := by kernel_rfl
theorem fun_5 : Try.prog.funcs[5]? = some Try.f5 := by kernel_rfl
theorem fun_6 : Try.prog.funcs[6]? = some Try.f6 := by kernel_rfl
theorem fun_7 : Try.prog.funcs[7]? = some Try.f7 := by kernel_rfl
theorem fun_8 : Try.prog.funcs[8]? = some Try.f8 := by kernel_rfl
theorem fun_9 : Try.prog.funcs[9]? = some Try.f9 := by kernel_rfl
theorem fun_10 : Try.prog.funcs[10]? = some Try.f10 := by kernel_rfl
theorem fun_11 : Try.prog.funcs[11]? = some Try.f11 := by kernel_rfl
theorem fun_12 : Try.prog.funcs[12]? = some Try.f12 := by kernel_rfl
theorem fun_13 : Try.prog.funcs[13]? = some Try.f13 := by kernel_rfl
theorem fun_14 : Try.prog.funcs[14]? = some Try.f14 := by kernel_rfl
theorem fun_15 : Try.prog.funcs[15]? = some Try.f15 := by kernel_rfl
theorem fun_16 : Try.prog.funcs[16]? = some Try.f16 := by kernel_rfl
theorem fun_17 : Try.prog.funcs[17]? = some Try.f17 := by kernel_rfl
theorem fun_18 : Try.prog.funcs[18]? = some Try.f18 := by kernel_rfl
theorem fun_19 : Try.prog.funcs[19]? = some Try.f19 := by kernel_rfl
theorem fun_20 : Try.prog.funcs[20]? = some Try.f20 := by kernel_rfl
theorem fun_21 : Try.prog.funcs[21]? = some Try.f21 := by kernel_rfl
theorem fun_22 : Try.prog.funcs[22]? = some Try.f22 := by kernel_rfl
theorem fun_23 : Try.prog.funcs[23]? = some Try.f23 := by kernel_rfl
theorem fun_24 : Try.prog.funcs[24]? = some Try.f24 := by kernel_rfl
theorem fun_25 : Try.prog.funcs[25]? = some Try.f25 := by kernel_rfl
theorem fun_26 : Try.prog.funcs[26]? = some Try.f26 := by kernel_rfl
theorem fun_27 : Try.prog.funcs[27]? = some Try.f27 := by kernel_rfl
theorem fun_28 : Try.prog.funcs[28]? = some Try.f28 := by kernel_rfl
theorem fun_29 : Try.prog.funcs[29]? = some Try.f29 := by kernel_rfl
theorem fun_30 : Try.prog.funcs[30]? = some Try.f30 := by kernel_rfl
theorem fun_31 : Try.prog.funcs[31]? = some Try.f31 := by kernel_rfl
theorem fun_32 : Try.prog.funcs[32]? = some Try.f32 := by kernel_rfl
theorem fun_33 : Try.prog.funcs[33]? = some Try.f33 := by kernel_rfl
theorem fun_34 : Try.prog.funcs[34]? = some Try.f34 := by kernel_rfl
theorem fun_35 : Try.prog.funcs[35]? = some Try.f35 := by kernel_rfl
theorem fun_36 : Try.prog.funcs[36]? = some Try.f36 := by kernel_rfl
theorem fun_37 : Try.prog.funcs[37]? = some Try.f37 := by kernel_rfl
theorem fun_38 : Try.prog.funcs[38]? = some Try.f38 := by kernel_rfl
theorem fun_39 : Try.prog.funcs[39]? = some Try.f39 := by kernel_rfl
theorem fun_40 : Try.prog.funcs[40]? = some Try.f40 := by kernel_rfl
theorem fun_41 : Try.prog.funcs[41]? = some Try.f41 := by kernel_rfl
theorem fun_42 : Try.prog.funcs[42]? = some Try.f42 := by kernel_rfl
theorem fun_43 : Try.prog.funcs[43]? = some Try.f43 := by kernel_rfl
theorem fun_44 : Try.prog.funcs[44]? = some Try.f44 := by kernel_rfl
theorem fun_45 : Try.prog.funcs[45]? = some Try.f45 := by kernel_rfl
theorem fun_46 : Try.prog.funcs[46]? = some Try.f46 := by kernel_rfl
theorem fun_47 : Try.prog.funcs[47]? = some Try.f47 := by kernel_rfl
theorem fun_48 : Try.prog.funcs[48]? = some Try.f48 := by kernel_rfl
theorem fun_49 : Try.prog.funcs[49]? = some Try.f49 := by kernel_rfl
theorem fun_50 : Try.prog.funcs[50]? = some Try.f50 := by kernel_rfl
theorem fun_51 : Try.prog.funcs[51]? = some Try.f51 := by kernel_rfl
theorem fun_52 : Try.prog.funcs[52]? = some Try.f52 := by kernel_rfl
theorem fun_53 : Try.prog.funcs[53]? = some Try.f53 := by kernel_rfl
theorem fun_54 : Try.prog.funcs[54]? = some Try.f54 := by kernel_rfl
theorem fun_55 : Try.prog.funcs[55]? = some Try.f55 := by kernel_rfl
theorem fun_56 : Try.prog.funcs[56]? = some Try.f56 := by kernel_rfl
theorem fun_57 : Try.prog.funcs[57]? = some Try.f57 := by kernel_rfl
theorem fun_58 : Try.prog.funcs[58]? = some Try.f58 := by kernel_rfl
theorem fun_59 : Try.prog.funcs[59]? = some Try.f59 := by kernel_rfl
theorem fun_60 : Try.prog.funcs[60]? = some Try.f60 := by kernel_rfl
theorem fun_61 : Try.prog.funcs[61]? = some Try.f61 := by kernel_rfl
theorem fun_62 : Try.prog.funcs[62]? = some Try.f62 := by kernel_rfl
theorem fun_63 : Try.prog.funcs[63]? = some Try.f63 := by kernel_rfl
theorem fun_64 : Try.prog.funcs[64]? = some Try.f64 := by kernel_rfl
theorem fun_65 : Try.prog.funcs[65]? = some Try.f65 := by kernel_rfl
theorem fun_66 : Try.prog.funcs[66]? = some Try.f66 := by kernel_rfl
theorem fun_67 : Try.prog.funcs[67]? = some Try.f67 := by kernel_rfl
theorem fun_68 : Try.prog.funcs[68]? = some Try.f68 := by kernel_rfl
theorem fun_69 : Try.prog.funcs[69]? = some Try.f69 := by kernel_rfl
theorem fun_70 : Try.prog.funcs[70]? = some Try.f70 := by kernel_rfl
theorem fun_71 : Try.prog.funcs[71]? = some Try.f71 := by kernel_rfl
theorem fun_72 : Try.prog.funcs[72]? = some Try.f72 := by kernel_rfl
theorem fun_73 : Try.prog.funcs[73]? = some Try.f73 := by kernel_rfl
theorem fun_74 : Try.prog.funcs[74]? = some Try.f74 := by kernel_rfl
theorem fun_75 : Try.prog.funcs[75]? = some Try.f75 := by kernel_rfl
theorem fun_76 : Try.prog.funcs[76]? = some Try.f76 := by kernel_rfl
theorem fun_77 : Try.prog.funcs[77]? = some Try.f77 := by kernel_rfl
theorem fun_78 : Try.prog.funcs[78]? = some Try.f78 := by kernel_rfl
theorem fun_79 : Try.prog.funcs[79]? = some Try.f79 := by kernel_rfl
theorem fun_80 : Try.prog.funcs[80]? = some Try.f80 := by kernel_rfl
theorem fun_81 : Try.prog.funcs[81]? = some Try.f81 := by kernel_rfl
theorem fun_82 : Try.prog.funcs[82]? = some Try.f82 := by kernel_rfl
theorem fun_83 : Try.prog.funcs[83]? = some Try.f83 := by kernel_rfl
theorem fun_84 : Try.prog.funcs[84]? = some Try.f84 := by kernel_rfl
theorem fun_85 : Try.prog.funcs[85]? = some Try.f85 := by kernel_rfl
theorem fun_86 : Try.prog.funcs[86]? = some Try.f86 := by kernel_rfl
theorem fun_87 : Try.prog.funcs[87]? = some Try.f87 := by kernel_rfl
theorem fun_88 : Try.prog.funcs[88]? = some Try.f88 := by kernel_rfl
theorem fun_89 : Try.prog.funcs[89]? = some Try.f89 := by kernel_rfl
theorem fun_90 : Try.prog.funcs[90]? = some Try.f90 := by kernel_rfl
theorem fun_91 : Try.prog.funcs[91]? = some Try.f91 := by kernel_rfl
theorem fun_92 : Try.prog.funcs[92]? = some Try.f92 := by kernel_rfl
theorem fun_93 : Try.prog.funcs[93]? = some Try.f93 := by kernel_rfl
theorem fun_94 : Try.prog.funcs[94]? = some Try.f94 := by kernel_rfl
theorem fun_95 : Try.prog.funcs[95]? = some Try.f95 := by kernel_rfl
theorem fun_96 : Try.prog.funcs[96]? = some Try.f96 := by kernel_rfl
theorem fun_97 : Try.prog.funcs[97]? = some Try.f97 := by kernel_rfl
theorem fun_98 : Try.prog.funcs[98]? = some Try.f98 := by kernel_rfl
theorem fun_99 : Try.prog.funcs[99]? = some Try.f99 := by kernel_rfl
theorem fun_100 : Try.prog.funcs[100]? = some Try.f100 := by kernel_rfl
theorem fun_101 : Try.prog.funcs[101]? = some Try.f101 := by kernel_rfl
theorem fun_102 : Try.prog.funcs[102]? = some Try.f102 := by kernel_rfl
theorem fun_103 : Try.prog.funcs[103]? = some Try.f103 := by kernel_rfl
theorem fun_104 : Try.prog.funcs[104]? = some Try.f104 := by kernel_rfl
theorem fun_105 : Try.prog.funcs[105]? = some Try.f105 := by kernel_rfl
theorem fun_106 : Try.prog.funcs[106]? = some Try.f106 := by kernel_rfl
theorem fun_107 : Try.prog.funcs[107]? = some Try.f107 := by kernel_rfl
theorem fun_108 : Try.prog.funcs[108]? = some Try.f108 := by kernel_rfl
theorem fun_109 : Try.prog.funcs[109]? = some Try.f109 := by kernel_rfl
theorem fun_110 : Try.prog.funcs[110]? = some Try.f110 := by kernel_rfl
theorem fun_111 : Try.prog.funcs[111]? = some Try.f111 := by kernel_rfl
theorem fun_112 : Try.prog.funcs[112]? = some Try.f112 := by kernel_rfl
theorem fun_113 : Try.prog.funcs[113]? = some Try.f113 := by kernel_rfl
theorem fun_114 : Try.prog.funcs[114]? = some Try.f114 := by kernel_rfl
theorem fun_115 : Try.prog.funcs[115]? = some Try.f115 := by kernel_rfl
theorem fun_116 : Try.prog.funcs[116]? = some Try.f116 := by kernel_rfl
theorem fun_117 : Try.prog.funcs[117]? = some Try.f117 := by kernel_rfl
theorem fun_118 : Try.prog.funcs[118]? = some Try.f118 := by kernel_rfl
theorem fun_119 : Try.prog.funcs[119]? = some Try.f119 := by kernel_rfl
theorem fun_120 : Try.prog.funcs[120]? = some Try.f120 := by kernel_rfl
theorem fun_121 : Try.prog.funcs[121]? = some Try.f121 := by kernel_rfl
theorem fun_122 : Try.prog.funcs[122]? = some Try.f122 := by kernel_rfl
theorem fun_123 : Try.prog.funcs[123]? = some Try.f123 := by kernel_rfl
theorem fun_124 : Try.prog.funcs[124]? = some Try.f124 := by kernel_rfl
theorem fun_125 : Try.prog.funcs[125]? = some Try.f125 := by kernel_rfl
def fA0 := (And.intro (And.intro (And.intro (And.intro (And.intro (And.intro (And.intro (And.intro (And.intro @tyc_2 @zer_2) (And.intro @zds_2 @und_2)) (And.intro (And.intro @apf_2 @tyc_3) (And.intro @zer_3 @zds_3))) (And.intro (And.intro (And.intro @und_3 @apf_3) (And.intro @tyc_4 @zer_4)) (And.intro (And.intro @zds_4 @und_4) (And.intro @apf_4 @tyc_5)))) (And.intro (And.intro (And.intro (And.intro @zer_5 @zds_5) (And.intro @und_5 @apf_5)) (And.intro (And.intro @tyc_6 @zer_6) (And.intro @zds_6 @und_6))) (And.intro (And.intro (And.intro @apf_6 @tyc_7) (And.intro @zer_7 @zds_7)) (And.intro (And.intro @fld_7_0 @fld_7_1) (And.intro @fld_7_2 @fld_7_3))))) (And.intro (And.intro (And.intro (And.intro (And.intro @stf_7 @arr_7) (And.intro @apf_7 @tyc_8)) (And.intro (And.intro @zer_8 @zds_8) (And.intro @fld_8_0 @fld_8_1))) (And.intro (And.intro (And.intro @fld_8_2 @fld_8_3) (And.intro @stf_8 @arr_8)) (And.intro (And.intro @apf_8 @tyc_9) (And.intro @zer_9 @zds_9)))) (And.intro (And.intro (And.intro (And.intro @apf_9 @tyc_10) (And.intro @zer_10 @zds_10)) (And.intro (And.intro @apf_10 @tyc_11) (And.intro @zer_11 @zds_11))) (And.intro (And.intro (And.intro @apf_11 @tyc_12) (And.intro @zer_12 @zds_12)) (And.intro (And.intro @und_12 @apf_12) (And.intro @tyc_13 @zer_13)))))) (And.intro (And.intro (And.intro (And.intro (And.intro (And.intro @zds_13 @fld_13_0) (And.intro @fld_13_1 @stf_13)) (And.intro (And.intro @arr_13 @apf_13) (And.intro @tyc_14 @zer_14))) (And.intro (And.intro (And.intro @zds_14 @fld_14_0) (And.intro @fld_14_1 @stf_14)) (And.intro (And.intro @arr_14 @apf_14) (And.intro @tyc_15 @zer_15)))) (And.intro (And.intro (And.intro (And.intro @zds_15 @apf_15) (And.intro @tyc_16 @zer_16)) (And.intro (And.intro @zds_16 @apf_16) (And.intro @tyc_17 @zer_17))) (And.intro (And.intro (And.intro @zds_17 @apf_17) (And.intro @tyc_18 @zer_18)) (And.intro (And.intro @zds_18 @fld_18_0) (And.intro @stf_18 @arr_18))))) (And.intro (And.intro (And.intro (And.intro (And.intro @apf_18 @tyc_19) (And.intro @zer_19 @zds_19)) (And.intro (And.intro @fld_19_0 @stf_19) (And.intro @arr_19 @apf_19))) (And.intro (And.intro (And.intro @tyc_21 @zer_21) (And.intro @zds_21 @und_21)) (And.intro (And.intro @apf_21 @tyc_22) (And.intro @zer_22 @zds_22)))) (And.intro (And.intro (And.intro (And.intro @elt_22 @apf_22) (And.intro @tyc_23 @zer_23)) (And.intro (And.intro @zds_23 @elt_23) (And.intro @apf_23 @tyc_24))) (And.intro (And.intro (And.intro @zer_24 @zds_24) (And.intro @arr_24 @stf_24)) (And.intro (And.intro @apf_24 @tyc_25) (And.intro @zer_25 (And.intro @zds_25 @fld_25_0)))))))) (And.intro (And.intro (And.intro (And.intro (And.intro (And.intro (And.intro @fld_25_1 @fld_25_2) (And.intro @fld_25_3 @stf_25)) (And.intro (And.intro @arr_25 @apf_25) (And.intro @tyc_26 @zer_26))) (And.intro (And.intro (And.intro @zds_26 @fld_26_0) (And.intro @fld_26_1 @fld_26_2)) (And.intro (And.intro @fld_26_3 @stf_26) (And.intro @arr_26 @apf_26)))) (And.intro (And.intro (And.intro (And.intro @tyc_27 @zer_27) (And.intro @zds_27 @elt_27)) (And.intro (And.intro @apf_27 @tyc_28) (And.intro @zer_28 @zds_28))) (And.intro (And.intro (And.intro @elt_28 @apf_28) (And.intro @tyc_29 @zer_29)) (And.intro (And.intro @zds_29 @fld_29_0) (And.intro @fld_29_1 @fld_29_2))))) (And.intro (And.intro (And.intro (And.intro (And.intro @fld_29_3 @stf_29) (And.intro @arr_29 @apf_29)) (And.intro (And.intro @tyc_30 @zer_30) (And.intro @zds_30 @fld_30_0))) (And.intro (And.intro (And.intro @fld_30_1 @fld_30_2) (And.intro @fld_30_3 @stf_30)) (And.intro (And.intro @arr_30 @apf_30) (And.intro @tyc_31 @zer_31)))) (And.intro (And.intro (And.intro (And.intro @zds_31 @fld_31_0) (And.intro @fld_31_1 @fld_31_2)) (And.intro (And.intro @fld_31_3 @stf_31) (And.intro @arr_31 @apf_31))) (And.intro (And.intro (And.intro @tyc_32 @zer_32) (And.intro @zds_32 @fld_32_0)) (And.intro (And.intro @fld_32_1 @fld_32_2) (And.intro @fld_32_3 @stf_32)))))) (And.intro (And.intro (And.intro (And.intro (And.intro (And.intro @arr_32 @apf_32) (And.intro @tyc_33 @zer_33)) (And.intro (And.intro @zds_33 @elt_33) (And.intro @apf_33 @tyc_34))) (And.intro (And.intro (And.intro @zer_34 @zds_34) (And.intro @elt_34 @apf_34)) (And.intro (And.intro @tyc_35 @zer_35) (And.intro @zds_35 @fld_35_0)))) (And.intro (And.intro (And.intro (And.intro @fld_35_1 @fld_35_2) (And.intro @stf_35 @arr_35)) (And.intro (And.intro @apf_35 @tyc_36) (And.intro @zer_36 @zds_36))) (And.intro (And.intro (And.intro @fld_36_0 @fld_36_1) (And.intro @fld_36_2 @stf_36)) (And.intro (And.intro @arr_36 @apf_36) (And.intro @tyc_39 @zer_39))))) (And.intro (And.intro (And.intro (And.intro (And.intro @zds_39 @und_39) (And.intro @apf_39 @tyc_43)) (And.intro (And.intro @zer_43 @zds_43) (And.intro @fld_43_0 @fld_43_1))) (And.intro (And.intro (And.intro @stf_43 @arr_43) (And.intro @apf_43 @tyc_44)) (And.intro (And.intro @zer_44 @zds_44) (And.intro @fld_44_0 @fld_44_1)))) (And.intro (And.intro (And.intro (And.intro @stf_44 @arr_44) (And.intro @apf_44 @tyc_45)) (And.intro (And.intro @zer_45 @zds_45) (And.intro @arr_45 @stf_45))) (And.intro (And.intro (And.intro @apf_45 @tyc_57) (And.intro @zer_57 @zds_57)) (And.intro (And.intro @elt_57 @apf_57) (And.intro @tyc_59 (And.intro @zer_59 @zds_59))))))))) (And.intro (And.intro (And.intro (And.intro (And.intro (And.intro (And.intro (And.intro @fld_59_0 @fld_59_1) (And.intro @fld_59_2 @stf_59)) (And.intro (And.intro @arr_59 @apf_59) (And.intro @tyc_60 @zer_60))) (And.intro (And.intro (And.intro @zds_60 @fld_60_0) (And.intro @fld_60_1 @fld_60_2)) (And.intro (And.intro @stf_60 @arr_60) (And.intro @apf_60 @tyc_75)))) (And.intro (And.intro (And.intro (And.intro @zer_75 @zds_75) (And.intro @fld_75_0 @fld_75_1)) (And.intro (And.intro @stf_75 @arr_75) (And.intro @apf_75 @tyc_76))) (And.intro (And.intro (And.intro @zer_76 @zds_76) (And.intro @fld_76_0 @fld_76_1)) (And.intro (And.intro @stf_76 @arr_76) (And.intro @apf_76 @tyc_86))))) (And.intro (And.intro (And.intro (And.intro (And.intro @zer_86 @zds_86) (And.intro @elt_86 @apf_86)) (And.intro (And.intro @tyc_97 @zer_97) (And.intro @zds_97 @arr_97))) (And.intro (And.intro (And.intro @stf_97 @apf_97) (And.intro @tyc_98 @zer_98)) (And.intro (And.intro @zds_98 @fld_98_0) (And.intro @fld_98_1 @fld_98_2)))) (And.intro (And.intro (And.intro (And.intro @stf_98 @arr_98) (And.intro @apf_98 @tyc_99)) (And.intro (And.intro @zer_99 @zds_99) (And.intro @fld_99_0 @fld_99_1))) (And.intro (And.intro (And.intro @fld_99_2 @stf_99) (And.intro @arr_99 @apf_99)) (And.intro (And.intro @tyc_100 @zer_100) (And.intro @zds_100 @arr_100)))))) (And.intro (And.intro (And.intro (And.intro (And.intro (And.intro @stf_100 @apf_100) (And.intro @tyc_103 @zer_103)) (And.intro (And.intro @zds_103 @fld_103_0) (And.intro @fld_103_1 @fld_103_2))) (And.intro (And.intro (And.intro @stf_103 @arr_103) (And.intro @apf_103 @tyc_104)) (And.intro (And.intro @zer_104 @zds_104) (And.intro @fld_104_0 @fld_104_1)))) (And.intro (And.intro (And.intro (And.intro @fld_104_2 @stf_104) (And.intro @arr_104 @apf_104)) (And.intro (And.intro @tyc_111 @zer_111) (And.intro @zds_111 @elt_111))) (And.intro (And.intro (And.intro @apf_111 @tyc_112) (And.intro @zer_112 @zds_112)) (And.intro (And.intro @fld_112_0 @fld_112_1) (And.intro @fld_112_2 @stf_112))))) (And.intro (And.intro (And.intro (And.intro (And.intro @arr_112 @apf_112) (And.intro @tyc_113 @zer_113)) (And.intro (And.intro @zds_113 @fld_113_0) (And.intro @fld_113_1 @fld_113_2))) (And.intro (And.intro (And.intro @stf_113 @arr_113) (And.intro @apf_113 @tyc_117)) (And.intro (And.intro @zer_117 @zds_117) (And.intro @fld_117_0 @fld_117_1)))) (And.intro (And.intro (And.intro (And.intro @stf_117 @arr_117) (And.intro @apf_117 @tyc_118)) (And.intro (And.intro @zer_118 @zds_118) (And.intro @fld_118_0 @fld_118_1))) (And.intro (And.intro (And.intro @stf_118 @arr_118) (And.intro @apf_118 @tyc_122)) (And.intro (And.intro @zer_122 @zds_122) (And.intro @elt_122 (And.intro @apf_122 @tyc_128)))))))) (And.intro (And.intro (And.intro (And.intro (And.intro (And.intro (And.intro @zer_128 @zds_128) (And.intro @elt_128 @apf_128)) (And.intro (And.intro @tyc_141 @zer_141) (And.intro @zds_141 @arr_141))) (And.intro (And.intro (And.intro @stf_141 @apf_141) (And.intro @tyc_146 @zer_146)) (And.intro (And.intro @zds_146 @mpt_146) (And.intro @apf_146 @tyc_147)))) (And.intro (And.intro (And.intro (And.intro @zer_147 @zds_147) (And.intro @elt_147 @apf_147)) (And.intro (And.intro @tyc_151 @zer_151) (And.intro @zds_151 @elt_151))) (And.intro (And.intro (And.intro @apf_151 @tyc_152) (And.intro @zer_152 @zds_152)) (And.intro (And.intro @elt_152 @apf_152) (And.intro @tyc_171 @zer_171))))) (And.intro (And.intro (And.intro (And.intro (And.intro @zds_171 @fld_171_0) (And.intro @fld_171_1 @fld_171_2)) (And.intro (And.intro @fld_171_3 @stf_171) (And.intro @arr_171 @apf_171))) (And.intro (And.intro (And.intro @tyc_172 @zer_172) (And.intro @zds_172 @fld_172_0)) (And.intro (And.intro @fld_172_1 @fld_172_2) (And.intro @fld_172_3 @stf_172)))) (And.intro (And.intro (And.intro (And.intro @arr_172 @apf_172) (And.intro @tyc_173 @zer_173)) (And.intro (And.intro @zds_173 @arr_173) (And.intro @stf_173 @tyc_174))) (And.intro (And.intro (And.intro @zer_174 @zds_174) (And.intro @stf_174 @arr_174)) (And.intro (And.intro @tyc_175 @zer_175) (And.intro @zds_175 @stf_175)))))) (And.intro (And.intro (And.intro (And.intro (And.intro (And.intro @arr_175 @tyc_177) (And.intro @zer_177 @zds_177)) (And.intro (And.intro @und_177 @apf_177) (And.intro @tyc_178 @zer_178))) (And.intro (And.intro (And.intro @zds_178 @und_178) (And.intro @apf_178 @tyc_179)) (And.intro (And.intro @zer_179 @zds_179) (And.intro @und_179 @apf_179)))) (And.intro (And.intro (And.intro (And.intro @tyc_181 @zer_181) (And.intro @zds_181 @apf_181)) (And.intro (And.intro @tyc_182 @zer_182) (And.intro @zds_182 @und_182))) (And.intro (And.intro (And.intro @apf_182 @tyc_183) (And.intro @zer_183 @zds_183)) (And.intro (And.intro @und_183 @apf_183) (And.intro @tyc_184 @zer_184))))) (And.intro (And.intro (And.intro (And.intro (And.intro @zds_184 @fld_184_0) (And.intro @fld_184_1 @fld_184_2)) (And.intro (And.intro @fld_184_3 @fld_184_4) (And.intro @fld_184_5 @fld_184_6))) (And.intro (And.intro (And.intro @fld_184_7 @fld_184_8) (And.intro @fld_184_9 @fld_184_10)) (And.intro (And.intro @stf_184 @arr_184) (And.intro @apf_184 @tyc_185)))) (And.intro (And.intro (And.intro (And.intro @zer_185 @zds_185) (And.intro @fld_185_0 @fld_185_1)) (And.intro (And.intro @fld_185_2 @fld_185_3) (And.intro @fld_185_4 @fld_185_5))) (And.intro (And.intro (And.intro @fld_185_6 @fld_185_7) (And.intro @fld_185_8 @fld_185_9)) (And.intro (And.intro @fld_185_10 @stf_185) (And.intro @arr_185 (And.intro @apf_185 @zro_33))))))))))
theorem fA : type_of% fA0 := fA0
end Go.Proofs.Ytfaekiaegebmbaa.Ab
