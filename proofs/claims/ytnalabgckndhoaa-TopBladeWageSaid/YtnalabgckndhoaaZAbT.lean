/- Facts of the seat: its types and its functions, by number. -/
import Derived.Test.YtnalabgckndhoaaZAbV
import Derived.Test.YtnalabgckndhoaaProg
import Derived.KernelRfl
namespace Go.Proofs.Ytnalabgckndhoaa.Ab
open Go Go.RowKit
set_option linter.defProp false
theorem tyc_1 : tyc Try.prog 1 = some (false, 1) := by kernel_rfl
theorem zer_1 : zer Try.prog 1 = some [Go.Value.nilFunc] := by kernel_rfl
theorem tyc_2 : tyc Try.prog 2 = some (false, 1) := by kernel_rfl
theorem zer_2 : zer Try.prog 2 = some [Go.Value.int Go.IntKind.i64 0] := by kernel_rfl
theorem zds_2 : zds Try.prog 2 = some [.v (Go.Value.int Go.IntKind.i64 0)] := by kernel_rfl
theorem und_2 : Try.prog.underlying 2 = some (.int .i64) := by kernel_rfl
theorem apf_2 : apf Try.prog 2 = some (1, 8) := by kernel_rfl
theorem tyc_3 : tyc Try.prog 3 = some (false, 1) := by kernel_rfl
theorem zer_3 : zer Try.prog 3 = some [Go.Value.int Go.IntKind.i64 0] := by kernel_rfl
theorem zds_3 : zds Try.prog 3 = some [.v (Go.Value.int Go.IntKind.i64 0)] := by kernel_rfl
theorem und_3 : Try.prog.underlying 3 = some (.int .i64) := by kernel_rfl
theorem apf_3 : apf Try.prog 3 = some (1, 8) := by kernel_rfl
theorem tyc_4 : tyc Try.prog 4 = some (false, 1) := by kernel_rfl
theorem zer_4 : zer Try.prog 4 = some [Go.Value.bool false] := by kernel_rfl
theorem zds_4 : zds Try.prog 4 = some [.v (Go.Value.bool false)] := by kernel_rfl
theorem und_4 : Try.prog.underlying 4 = some .bool := by kernel_rfl
theorem apf_4 : apf Try.prog 4 = some (1, 1) := by kernel_rfl
theorem tyc_5 : tyc Try.prog 5 = some (false, 1) := by kernel_rfl
theorem zer_5 : zer Try.prog 5 = some [Go.Value.int Go.IntKind.u8 0] := by kernel_rfl
theorem zds_5 : zds Try.prog 5 = some [.v (Go.Value.int Go.IntKind.u8 0)] := by kernel_rfl
theorem und_5 : Try.prog.underlying 5 = some (.int .u8) := by kernel_rfl
theorem apf_5 : apf Try.prog 5 = some (1, 1) := by kernel_rfl
theorem tyc_6 : tyc Try.prog 6 = some (false, 1) := by kernel_rfl
theorem zer_6 : zer Try.prog 6 = some [Go.Value.int Go.IntKind.u8 0] := by kernel_rfl
theorem zds_6 : zds Try.prog 6 = some [.v (Go.Value.int Go.IntKind.u8 0)] := by kernel_rfl
theorem und_6 : Try.prog.underlying 6 = some (.int .u8) := by kernel_rfl
theorem apf_6 : apf Try.prog 6 = some (1, 1) := by kernel_rfl
theorem tyc_7 : tyc Try.prog 7 = some (true, 4) := by kernel_rfl
theorem zer_7 : zer Try.prog 7 = some [Go.Value.int Go.IntKind.i64 0, Go.Value.int Go.IntKind.i64 0, Go.Value.bool false, Go.Value.int Go.IntKind.u8 0] := by kernel_rfl
theorem zds_7 : zds Try.prog 7 = some [.v (Go.Value.int Go.IntKind.i64 0), .v (Go.Value.int Go.IntKind.i64 0), .v (Go.Value.bool false), .v (Go.Value.int Go.IntKind.u8 0)] := by kernel_rfl
theorem fld_7_0 : fld Try.prog 7 0 = some (0, 2) := by kernel_rfl
theorem fld_7_1 : fld Try.prog 7 1 = some (1, 3) := by kernel_rfl
theorem fld_7_2 : fld Try.prog 7 2 = some (2, 4) := by kernel_rfl
theorem fld_7_3 : fld Try.prog 7 3 = some (3, 6) := by kernel_rfl
theorem stf_7 : stf Try.prog 7 = some [(0, 1), (1, 1), (2, 1), (3, 1)] := by kernel_rfl
theorem arr_7 : arr Try.prog 7 = none := by kernel_rfl
theorem apf_7 : apf Try.prog 7 = some (4, 24) := by kernel_rfl
theorem tyc_8 : tyc Try.prog 8 = some (true, 4) := by kernel_rfl
theorem zer_8 : zer Try.prog 8 = some [Go.Value.int Go.IntKind.i64 0, Go.Value.int Go.IntKind.i64 0, Go.Value.bool false, Go.Value.int Go.IntKind.u8 0] := by kernel_rfl
theorem zds_8 : zds Try.prog 8 = some [.v (Go.Value.int Go.IntKind.i64 0), .v (Go.Value.int Go.IntKind.i64 0), .v (Go.Value.bool false), .v (Go.Value.int Go.IntKind.u8 0)] := by kernel_rfl
theorem fld_8_0 : fld Try.prog 8 0 = some (0, 2) := by kernel_rfl
theorem fld_8_1 : fld Try.prog 8 1 = some (1, 3) := by kernel_rfl
theorem fld_8_2 : fld Try.prog 8 2 = some (2, 4) := by kernel_rfl
theorem fld_8_3 : fld Try.prog 8 3 = some (3, 6) := by kernel_rfl
theorem stf_8 : stf Try.prog 8 = some [(0, 1), (1, 1), (2, 1), (3, 1)] := by kernel_rfl
theorem arr_8 : arr Try.prog 8 = none := by kernel_rfl
theorem apf_8 : apf Try.prog 8 = some (4, 24) := by kernel_rfl
theorem tyc_9 : tyc Try.prog 9 = some (false, 1) := by kernel_rfl
theorem zer_9 : zer Try.prog 9 = some [Go.Value.string { data := #[] }] := by kernel_rfl
theorem zds_9 : zds Try.prog 9 = some [.v (Go.Value.string { data := #[] })] := by kernel_rfl
theorem apf_9 : apf Try.prog 9 = some (1, 16) := by kernel_rfl
theorem tyc_10 : tyc Try.prog 10 = some (false, 1) := by kernel_rfl
theorem zer_10 : zer Try.prog 10 = some [Go.Value.string { data := #[] }] := by kernel_rfl
theorem zds_10 : zds Try.prog 10 = some [.v (Go.Value.string { data := #[] })] := by kernel_rfl
theorem apf_10 : apf Try.prog 10 = some (1, 16) := by kernel_rfl
theorem tyc_11 : tyc Try.prog 11 = some (false, 1) := by kernel_rfl
theorem zer_11 : zer Try.prog 11 = some [Go.Value.string { data := #[] }] := by kernel_rfl
theorem zds_11 : zds Try.prog 11 = some [.v (Go.Value.string { data := #[] })] := by kernel_rfl
theorem apf_11 : apf Try.prog 11 = some (1, 16) := by kernel_rfl
theorem tyc_12 : tyc Try.prog 12 = some (false, 1) := by kernel_rfl
theorem zer_12 : zer Try.prog 12 = some [Go.Value.int Go.IntKind.u64 0] := by kernel_rfl
theorem zds_12 : zds Try.prog 12 = some [.v (Go.Value.int Go.IntKind.u64 0)] := by kernel_rfl
theorem und_12 : Try.prog.underlying 12 = some (.int .u64) := by kernel_rfl
theorem apf_12 : apf Try.prog 12 = some (1, 8) := by kernel_rfl
theorem tyc_13 : tyc Try.prog 13 = some (true, 2) := by kernel_rfl
theorem zer_13 : zer Try.prog 13 = some [Go.Value.string { data := #[] }, Go.Value.int Go.IntKind.u64 0] := by kernel_rfl
theorem zds_13 : zds Try.prog 13 = some [.v (Go.Value.string { data := #[] }), .v (Go.Value.int Go.IntKind.u64 0)] := by kernel_rfl
theorem fld_13_0 : fld Try.prog 13 0 = some (0, 9) := by kernel_rfl
theorem fld_13_1 : fld Try.prog 13 1 = some (1, 12) := by kernel_rfl
theorem stf_13 : stf Try.prog 13 = some [(0, 1), (1, 1)] := by kernel_rfl
theorem arr_13 : arr Try.prog 13 = none := by kernel_rfl
theorem apf_13 : apf Try.prog 13 = some (2, 24) := by kernel_rfl
theorem tyc_14 : tyc Try.prog 14 = some (true, 2) := by kernel_rfl
theorem zer_14 : zer Try.prog 14 = some [Go.Value.string { data := #[] }, Go.Value.int Go.IntKind.u64 0] := by kernel_rfl
theorem zds_14 : zds Try.prog 14 = some [.v (Go.Value.string { data := #[] }), .v (Go.Value.int Go.IntKind.u64 0)] := by kernel_rfl
theorem fld_14_0 : fld Try.prog 14 0 = some (0, 9) := by kernel_rfl
theorem fld_14_1 : fld Try.prog 14 1 = some (1, 12) := by kernel_rfl
theorem stf_14 : stf Try.prog 14 = some [(0, 1), (1, 1)] := by kernel_rfl
theorem arr_14 : arr Try.prog 14 = none := by kernel_rfl
theorem apf_14 : apf Try.prog 14 = some (2, 24) := by kernel_rfl
theorem tyc_15 : tyc Try.prog 15 = some (false, 1) := by kernel_rfl
theorem zer_15 : zer Try.prog 15 = some [Go.Value.pointer none] := by kernel_rfl
theorem zds_15 : zds Try.prog 15 = some [.v (Go.Value.pointer none)] := by kernel_rfl
theorem apf_15 : apf Try.prog 15 = some (1, 8) := by kernel_rfl
theorem tyc_16 : tyc Try.prog 16 = some (false, 1) := by kernel_rfl
theorem zer_16 : zer Try.prog 16 = some [Go.Value.pointer none] := by kernel_rfl
theorem zds_16 : zds Try.prog 16 = some [.v (Go.Value.pointer none)] := by kernel_rfl
theorem apf_16 : apf Try.prog 16 = some (1, 8) := by kernel_rfl
theorem tyc_17 : tyc Try.prog 17 = some (false, 1) := by kernel_rfl
theorem zer_17 : zer Try.prog 17 = some [Go.Value.pointer none] := by kernel_rfl
theorem zds_17 : zds Try.prog 17 = some [.v (Go.Value.pointer none)] := by kernel_rfl
theorem apf_17 : apf Try.prog 17 = some (1, 8) := by kernel_rfl
theorem tyc_18 : tyc Try.prog 18 = some (true, 1) := by kernel_rfl
theorem zer_18 : zer Try.prog 18 = some [Go.Value.pointer none] := by kernel_rfl
theorem zds_18 : zds Try.prog 18 = some [.v (Go.Value.pointer none)] := by kernel_rfl
theorem fld_18_0 : fld Try.prog 18 0 = some (0, 17) := by kernel_rfl
theorem stf_18 : stf Try.prog 18 = some [(0, 1)] := by kernel_rfl
theorem arr_18 : arr Try.prog 18 = none := by kernel_rfl
theorem apf_18 : apf Try.prog 18 = some (1, 8) := by kernel_rfl
theorem tyc_19 : tyc Try.prog 19 = some (true, 1) := by kernel_rfl
theorem zer_19 : zer Try.prog 19 = some [Go.Value.pointer none] := by kernel_rfl
theorem zds_19 : zds Try.prog 19 = some [.v (Go.Value.pointer none)] := by kernel_rfl
theorem fld_19_0 : fld Try.prog 19 0 = some (0, 17) := by kernel_rfl
theorem stf_19 : stf Try.prog 19 = some [(0, 1)] := by kernel_rfl
theorem arr_19 : arr Try.prog 19 = none := by kernel_rfl
theorem apf_19 : apf Try.prog 19 = some (1, 8) := by kernel_rfl
theorem tyc_21 : tyc Try.prog 21 = some (false, 1) := by kernel_rfl
theorem zer_21 : zer Try.prog 21 = some [Go.Value.int Go.IntKind.i32 0] := by kernel_rfl
theorem zds_21 : zds Try.prog 21 = some [.v (Go.Value.int Go.IntKind.i32 0)] := by kernel_rfl
theorem und_21 : Try.prog.underlying 21 = some (.int .i32) := by kernel_rfl
theorem apf_21 : apf Try.prog 21 = some (1, 4) := by kernel_rfl
theorem tyc_22 : tyc Try.prog 22 = some (true, 5) := by kernel_rfl
theorem zer_22 : zer Try.prog 22 = some [Go.Value.int Go.IntKind.u8 0, Go.Value.int Go.IntKind.u8 0, Go.Value.int Go.IntKind.u8 0, Go.Value.int Go.IntKind.u8 0, Go.Value.int Go.IntKind.u8 0] := by kernel_rfl
theorem zds_22 : zds Try.prog 22 = some [.v (Go.Value.int Go.IntKind.u8 0), .v (Go.Value.int Go.IntKind.u8 0), .v (Go.Value.int Go.IntKind.u8 0), .v (Go.Value.int Go.IntKind.u8 0), .v (Go.Value.int Go.IntKind.u8 0)] := by kernel_rfl
theorem arr_22 : arr Try.prog 22 = some (5, 5, 1) := by kernel_rfl
theorem stf_22 : stf Try.prog 22 = none := by kernel_rfl
theorem apf_22 : apf Try.prog 22 = some (5, 5) := by kernel_rfl
theorem tyc_23 : tyc Try.prog 23 = some (false, 1) := by kernel_rfl
theorem zer_23 : zer Try.prog 23 = some [Go.Value.slice none 0 0] := by kernel_rfl
theorem zds_23 : zds Try.prog 23 = some [.sl 1 []] := by kernel_rfl
theorem elt_23 : elt Try.prog 23 = some (35, 1) := by kernel_rfl
theorem apf_23 : apf Try.prog 23 = some (1, 24) := by kernel_rfl
theorem tyc_24 : tyc Try.prog 24 = some (true, 2) := by kernel_rfl
theorem zer_24 : zer Try.prog 24 = some [Go.Value.int Go.IntKind.i64 0, Go.Value.int Go.IntKind.i64 0] := by kernel_rfl
theorem zds_24 : zds Try.prog 24 = some [.v (Go.Value.int Go.IntKind.i64 0), .v (Go.Value.int Go.IntKind.i64 0)] := by kernel_rfl
theorem fld_24_0 : fld Try.prog 24 0 = some (0, 3) := by kernel_rfl
theorem fld_24_1 : fld Try.prog 24 1 = some (1, 3) := by kernel_rfl
theorem stf_24 : stf Try.prog 24 = some [(0, 1), (1, 1)] := by kernel_rfl
theorem arr_24 : arr Try.prog 24 = none := by kernel_rfl
theorem apf_24 : apf Try.prog 24 = some (2, 16) := by kernel_rfl
theorem tyc_25 : tyc Try.prog 25 = some (true, 2) := by kernel_rfl
theorem zer_25 : zer Try.prog 25 = some [Go.Value.int Go.IntKind.i64 0, Go.Value.int Go.IntKind.i64 0] := by kernel_rfl
theorem zds_25 : zds Try.prog 25 = some [.v (Go.Value.int Go.IntKind.i64 0), .v (Go.Value.int Go.IntKind.i64 0)] := by kernel_rfl
theorem fld_25_0 : fld Try.prog 25 0 = some (0, 3) := by kernel_rfl
theorem fld_25_1 : fld Try.prog 25 1 = some (1, 3) := by kernel_rfl
theorem stf_25 : stf Try.prog 25 = some [(0, 1), (1, 1)] := by kernel_rfl
theorem arr_25 : arr Try.prog 25 = none := by kernel_rfl
theorem apf_25 : apf Try.prog 25 = some (2, 16) := by kernel_rfl
theorem tyc_26 : tyc Try.prog 26 = some (false, 1) := by kernel_rfl
theorem zer_26 : zer Try.prog 26 = some [Go.Value.nilFunc] := by kernel_rfl
theorem tyc_27 : tyc Try.prog 27 = some (false, 1) := by kernel_rfl
theorem zer_27 : zer Try.prog 27 = some [Go.Value.slice none 0 0] := by kernel_rfl
theorem zds_27 : zds Try.prog 27 = some [.sl 2 []] := by kernel_rfl
theorem elt_27 : elt Try.prog 27 = some (25, 2) := by kernel_rfl
theorem apf_27 : apf Try.prog 27 = some (1, 24) := by kernel_rfl
theorem tyc_28 : tyc Try.prog 28 = some (false, 1) := by kernel_rfl
theorem zer_28 : zer Try.prog 28 = some [Go.Value.slice none 0 0] := by kernel_rfl
theorem zds_28 : zds Try.prog 28 = some [.sl 1 []] := by kernel_rfl
theorem elt_28 : elt Try.prog 28 = some (3, 1) := by kernel_rfl
theorem apf_28 : apf Try.prog 28 = some (1, 24) := by kernel_rfl
theorem tyc_29 : tyc Try.prog 29 = some (true, 3) := by kernel_rfl
theorem zer_29 : zer Try.prog 29 = some [Go.Value.int Go.IntKind.i64 0, Go.Value.slice none 0 0, Go.Value.slice none 0 0] := by kernel_rfl
theorem zds_29 : zds Try.prog 29 = some [.v (Go.Value.int Go.IntKind.i64 0), .v (Go.Value.slice none 0 0), .v (Go.Value.slice none 0 0)] := by kernel_rfl
theorem fld_29_0 : fld Try.prog 29 0 = some (0, 3) := by kernel_rfl
theorem fld_29_1 : fld Try.prog 29 1 = some (1, 27) := by kernel_rfl
theorem fld_29_2 : fld Try.prog 29 2 = some (2, 28) := by kernel_rfl
theorem stf_29 : stf Try.prog 29 = some [(0, 1), (1, 1), (2, 1)] := by kernel_rfl
theorem arr_29 : arr Try.prog 29 = none := by kernel_rfl
theorem apf_29 : apf Try.prog 29 = some (3, 56) := by kernel_rfl
theorem tyc_30 : tyc Try.prog 30 = some (true, 3) := by kernel_rfl
theorem zer_30 : zer Try.prog 30 = some [Go.Value.int Go.IntKind.i64 0, Go.Value.slice none 0 0, Go.Value.slice none 0 0] := by kernel_rfl
theorem zds_30 : zds Try.prog 30 = some [.v (Go.Value.int Go.IntKind.i64 0), .v (Go.Value.slice none 0 0), .v (Go.Value.slice none 0 0)] := by kernel_rfl
theorem fld_30_0 : fld Try.prog 30 0 = some (0, 3) := by kernel_rfl
theorem fld_30_1 : fld Try.prog 30 1 = some (1, 27) := by kernel_rfl
theorem fld_30_2 : fld Try.prog 30 2 = some (2, 28) := by kernel_rfl
theorem stf_30 : stf Try.prog 30 = some [(0, 1), (1, 1), (2, 1)] := by kernel_rfl
theorem arr_30 : arr Try.prog 30 = none := by kernel_rfl
theorem apf_30 : apf Try.prog 30 = some (3, 56) := by kernel_rfl
theorem tyc_31 : tyc Try.prog 31 = some (false, 1) := by kernel_rfl
theorem zer_31 : zer Try.prog 31 = some [Go.Value.int Go.IntKind.i64 0] := by kernel_rfl
theorem zds_31 : zds Try.prog 31 = some [.v (Go.Value.int Go.IntKind.i64 0)] := by kernel_rfl
theorem und_31 : Try.prog.underlying 31 = some (.int .i64) := by kernel_rfl
theorem apf_31 : apf Try.prog 31 = some (1, 8) := by kernel_rfl
theorem tyc_32 : tyc Try.prog 32 = some (true, 4) := by kernel_rfl
theorem zer_32 : zer Try.prog 32 = some [Go.Value.int Go.IntKind.i64 0, Go.Value.int Go.IntKind.i64 0, Go.Value.int Go.IntKind.i64 0, Go.Value.int Go.IntKind.i64 0] := by kernel_rfl
theorem zds_32 : zds Try.prog 32 = some [.v (Go.Value.int Go.IntKind.i64 0), .v (Go.Value.int Go.IntKind.i64 0), .v (Go.Value.int Go.IntKind.i64 0), .v (Go.Value.int Go.IntKind.i64 0)] := by kernel_rfl
theorem fld_32_0 : fld Try.prog 32 0 = some (0, 3) := by kernel_rfl
theorem fld_32_1 : fld Try.prog 32 1 = some (1, 31) := by kernel_rfl
theorem fld_32_2 : fld Try.prog 32 2 = some (2, 3) := by kernel_rfl
theorem fld_32_3 : fld Try.prog 32 3 = some (3, 3) := by kernel_rfl
theorem stf_32 : stf Try.prog 32 = some [(0, 1), (1, 1), (2, 1), (3, 1)] := by kernel_rfl
theorem arr_32 : arr Try.prog 32 = none := by kernel_rfl
theorem apf_32 : apf Try.prog 32 = some (4, 32) := by kernel_rfl
theorem tyc_33 : tyc Try.prog 33 = some (true, 4) := by kernel_rfl
theorem zer_33 : zer Try.prog 33 = some [Go.Value.int Go.IntKind.i64 0, Go.Value.int Go.IntKind.i64 0, Go.Value.int Go.IntKind.i64 0, Go.Value.int Go.IntKind.i64 0] := by kernel_rfl
theorem zds_33 : zds Try.prog 33 = some [.v (Go.Value.int Go.IntKind.i64 0), .v (Go.Value.int Go.IntKind.i64 0), .v (Go.Value.int Go.IntKind.i64 0), .v (Go.Value.int Go.IntKind.i64 0)] := by kernel_rfl
theorem fld_33_0 : fld Try.prog 33 0 = some (0, 3) := by kernel_rfl
theorem fld_33_1 : fld Try.prog 33 1 = some (1, 31) := by kernel_rfl
theorem fld_33_2 : fld Try.prog 33 2 = some (2, 3) := by kernel_rfl
theorem fld_33_3 : fld Try.prog 33 3 = some (3, 3) := by kernel_rfl
theorem stf_33 : stf Try.prog 33 = some [(0, 1), (1, 1), (2, 1), (3, 1)] := by kernel_rfl
theorem arr_33 : arr Try.prog 33 = none := by kernel_rfl
theorem apf_33 : apf Try.prog 33 = some (4, 32) := by kernel_rfl
theorem tyc_34 : tyc Try.prog 34 = some (false, 1) := by kernel_rfl
theorem zer_34 : zer Try.prog 34 = some [Go.Value.slice none 0 0] := by kernel_rfl
theorem zds_34 : zds Try.prog 34 = some [.sl 4 []] := by kernel_rfl
theorem elt_34 : elt Try.prog 34 = some (33, 4) := by kernel_rfl
theorem apf_34 : apf Try.prog 34 = some (1, 24) := by kernel_rfl
theorem tyc_35 : tyc Try.prog 35 = some (false, 1) := by kernel_rfl
theorem zer_35 : zer Try.prog 35 = some [Go.Value.int Go.IntKind.u16 0] := by kernel_rfl
theorem zds_35 : zds Try.prog 35 = some [.v (Go.Value.int Go.IntKind.u16 0)] := by kernel_rfl
theorem und_35 : Try.prog.underlying 35 = some (.int .u16) := by kernel_rfl
theorem apf_35 : apf Try.prog 35 = some (1, 2) := by kernel_rfl
theorem tyc_36 : tyc Try.prog 36 = some (false, 1) := by kernel_rfl
theorem zer_36 : zer Try.prog 36 = some [Go.Value.int Go.IntKind.i64 0] := by kernel_rfl
theorem zds_36 : zds Try.prog 36 = some [.v (Go.Value.int Go.IntKind.i64 0)] := by kernel_rfl
theorem und_36 : Try.prog.underlying 36 = some (.int .i64) := by kernel_rfl
theorem apf_36 : apf Try.prog 36 = some (1, 8) := by kernel_rfl
theorem tyc_38 : tyc Try.prog 38 = some (false, 1) := by kernel_rfl
theorem zer_38 : zer Try.prog 38 = some [Go.Value.nilFunc] := by kernel_rfl
theorem tyc_39 : tyc Try.prog 39 = some (false, 1) := by kernel_rfl
theorem zer_39 : zer Try.prog 39 = some [Go.Value.slice none 0 0] := by kernel_rfl
theorem zds_39 : zds Try.prog 39 = some [.sl 2 []] := by kernel_rfl
theorem elt_39 : elt Try.prog 39 = some (81, 2) := by kernel_rfl
theorem apf_39 : apf Try.prog 39 = some (1, 24) := by kernel_rfl
theorem tyc_40 : tyc Try.prog 40 = some (true, 3) := by kernel_rfl
theorem zer_40 : zer Try.prog 40 = some [Go.Value.slice none 0 0, Go.Value.int Go.IntKind.i64 0, Go.Value.int Go.IntKind.i64 0] := by kernel_rfl
theorem zds_40 : zds Try.prog 40 = some [.v (Go.Value.slice none 0 0), .v (Go.Value.int Go.IntKind.i64 0), .v (Go.Value.int Go.IntKind.i64 0)] := by kernel_rfl
theorem fld_40_0 : fld Try.prog 40 0 = some (0, 39) := by kernel_rfl
theorem fld_40_1 : fld Try.prog 40 1 = some (1, 3) := by kernel_rfl
theorem fld_40_2 : fld Try.prog 40 2 = some (2, 3) := by kernel_rfl
theorem stf_40 : stf Try.prog 40 = some [(0, 1), (1, 1), (2, 1)] := by kernel_rfl
theorem arr_40 : arr Try.prog 40 = none := by kernel_rfl
theorem apf_40 : apf Try.prog 40 = some (3, 40) := by kernel_rfl
theorem tyc_41 : tyc Try.prog 41 = some (true, 3) := by kernel_rfl
theorem zer_41 : zer Try.prog 41 = some [Go.Value.slice none 0 0, Go.Value.int Go.IntKind.i64 0, Go.Value.int Go.IntKind.i64 0] := by kernel_rfl
theorem zds_41 : zds Try.prog 41 = some [.v (Go.Value.slice none 0 0), .v (Go.Value.int Go.IntKind.i64 0), .v (Go.Value.int Go.IntKind.i64 0)] := by kernel_rfl
theorem fld_41_0 : fld Try.prog 41 0 = some (0, 39) := by kernel_rfl
theorem fld_41_1 : fld Try.prog 41 1 = some (1, 3) := by kernel_rfl
theorem fld_41_2 : fld Try.prog 41 2 = some (2, 3) := by kernel_rfl
theorem stf_41 : stf Try.prog 41 = some [(0, 1), (1, 1), (2, 1)] := by kernel_rfl
theorem arr_41 : arr Try.prog 41 = none := by kernel_rfl
theorem apf_41 : apf Try.prog 41 = some (3, 40) := by kernel_rfl
theorem tyc_42 : tyc Try.prog 42 = some (false, 1) := by kernel_rfl
theorem zer_42 : zer Try.prog 42 = some [Go.Value.nilFunc] := by kernel_rfl
theorem tyc_43 : tyc Try.prog 43 = some (false, 1) := by kernel_rfl
theorem zer_43 : zer Try.prog 43 = some [Go.Value.nilFunc] := by kernel_rfl
theorem tyc_44 : tyc Try.prog 44 = some (false, 1) := by kernel_rfl
theorem zer_44 : zer Try.prog 44 = some [Go.Value.nilFunc] := by kernel_rfl
theorem tyc_45 : tyc Try.prog 45 = some (false, 1) := by kernel_rfl
theorem zer_45 : zer Try.prog 45 = some [Go.Value.nilFunc] := by kernel_rfl
theorem tyc_46 : tyc Try.prog 46 = some (true, 2) := by kernel_rfl
theorem zer_46 : zer Try.prog 46 = some [Go.Value.int Go.IntKind.u8 0, Go.Value.int Go.IntKind.u8 0] := by kernel_rfl
theorem zds_46 : zds Try.prog 46 = some [.v (Go.Value.int Go.IntKind.u8 0), .v (Go.Value.int Go.IntKind.u8 0)] := by kernel_rfl
theorem arr_46 : arr Try.prog 46 = some (2, 5, 1) := by kernel_rfl
theorem stf_46 : stf Try.prog 46 = none := by kernel_rfl
theorem apf_46 : apf Try.prog 46 = some (2, 2) := by kernel_rfl
theorem tyc_47 : tyc Try.prog 47 = some (true, 12) := by kernel_rfl
theorem zer_47 : zer Try.prog 47 = some [Go.Value.int Go.IntKind.u8 0, Go.Value.int Go.IntKind.u8 0, Go.Value.int Go.IntKind.u8 0, Go.Value.int Go.IntKind.u8 0, Go.Value.int Go.IntKind.u8 0, Go.Value.int Go.IntKind.u8 0, Go.Value.int Go.IntKind.u8 0, Go.Value.int Go.IntKind.u8 0, Go.Value.int Go.IntKind.u8 0, Go.Value.int Go.IntKind.u8 0, Go.Value.int Go.IntKind.u8 0, Go.Value.int Go.IntKind.u8 0] := by kernel_rfl
theorem zds_47 : zds Try.prog 47 = some [.v (Go.Value.int Go.IntKind.u8 0), .v (Go.Value.int Go.IntKind.u8 0), .v (Go.Value.int Go.IntKind.u8 0), .v (Go.Value.int Go.IntKind.u8 0), .v (Go.Value.int Go.IntKind.u8 0), .v (Go.Value.int Go.IntKind.u8 0), .v (Go.Value.int Go.IntKind.u8 0), .v (Go.Value.int Go.IntKind.u8 0), .v (Go.Value.int Go.IntKind.u8 0), .v (Go.Value.int Go.IntKind.u8 0), .v (Go.Value.int Go.IntKind.u8 0), .v (Go.Value.int Go.IntKind.u8 0)] := by kernel_rfl
theorem arr_47 : arr Try.prog 47 = some (6, 46, 2) := by kernel_rfl
theorem stf_47 : stf Try.prog 47 = none := by kernel_rfl
theorem apf_47 : apf Try.prog 47 = some (12, 12) := by kernel_rfl
theorem tyc_48 : tyc Try.prog 48 = some (false, 1) := by kernel_rfl
theorem zer_48 : zer Try.prog 48 = some [Go.Value.slice none 0 0] := by kernel_rfl
theorem zds_48 : zds Try.prog 48 = some [.sl 3 []] := by kernel_rfl
theorem elt_48 : elt Try.prog 48 = some (52, 3) := by kernel_rfl
theorem apf_48 : apf Try.prog 48 = some (1, 24) := by kernel_rfl
theorem tyc_49 : tyc Try.prog 49 = some (true, 4) := by kernel_rfl
theorem zer_49 : zer Try.prog 49 = some [Go.Value.int Go.IntKind.u8 0, Go.Value.int Go.IntKind.u8 0, Go.Value.int Go.IntKind.u8 0, Go.Value.int Go.IntKind.u8 0] := by kernel_rfl
theorem zds_49 : zds Try.prog 49 = some [.v (Go.Value.int Go.IntKind.u8 0), .v (Go.Value.int Go.IntKind.u8 0), .v (Go.Value.int Go.IntKind.u8 0), .v (Go.Value.int Go.IntKind.u8 0)] := by kernel_rfl
theorem arr_49 : arr Try.prog 49 = some (4, 5, 1) := by kernel_rfl
theorem stf_49 : stf Try.prog 49 = none := by kernel_rfl
theorem apf_49 : apf Try.prog 49 = some (4, 4) := by kernel_rfl
theorem tyc_50 : tyc Try.prog 50 = some (true, 30) := by kernel_rfl
theorem zer_50 : zer Try.prog 50 = some [Go.Value.int Go.IntKind.u8 0, Go.Value.int Go.IntKind.u8 0, Go.Value.int Go.IntKind.u8 0, Go.Value.int Go.IntKind.u8 0, Go.Value.int Go.IntKind.u8 0, Go.Value.int Go.IntKind.u8 0, Go.Value.int Go.IntKind.u8 0, Go.Value.int Go.IntKind.u8 0, Go.Value.int Go.IntKind.u8 0, Go.Value.int Go.IntKind.u8 0, Go.Value.int Go.IntKind.u8 0, Go.Value.int Go.IntKind.u8 0, Go.Value.int Go.IntKind.u8 0, Go.Value.int Go.IntKind.u8 0, Go.Value.int Go.IntKind.u8 0, Go.Value.int Go.IntKind.u8 0, Go.Value.int Go.IntKind.u8 0, Go.Value.int Go.IntKind.u8 0, Go.Value.int Go.IntKind.u8 0, Go.Value.int Go.IntKind.u8 0, Go.Value.int Go.IntKind.u8 0, Go.Value.int Go.IntKind.u8 0, Go.Value.int Go.IntKind.u8 0, Go.Value.int Go.IntKind.u8 0, Go.Value.int Go.IntKind.u8 0, Go.Value.slice none 0 0, Go.Value.int Go.IntKind.u8 0, Go.Value.int Go.IntKind.u8 0, Go.Value.int Go.IntKind.u8 0, Go.Value.int Go.IntKind.u8 0] := by kernel_rfl
theorem zds_50 : zds Try.prog 50 = some [.v (Go.Value.int Go.IntKind.u8 0), .v (Go.Value.int Go.IntKind.u8 0), .v (Go.Value.int Go.IntKind.u8 0), .v (Go.Value.int Go.IntKind.u8 0), .v (Go.Value.int Go.IntKind.u8 0), .v (Go.Value.int Go.IntKind.u8 0), .v (Go.Value.int Go.IntKind.u8 0), .v (Go.Value.int Go.IntKind.u8 0), .v (Go.Value.int Go.IntKind.u8 0), .v (Go.Value.int Go.IntKind.u8 0), .v (Go.Value.int Go.IntKind.u8 0), .v (Go.Value.int Go.IntKind.u8 0), .v (Go.Value.int Go.IntKind.u8 0), .v (Go.Value.int Go.IntKind.u8 0), .v (Go.Value.int Go.IntKind.u8 0), .v (Go.Value.int Go.IntKind.u8 0), .v (Go.Value.int Go.IntKind.u8 0), .v (Go.Value.int Go.IntKind.u8 0), .v (Go.Value.int Go.IntKind.u8 0), .v (Go.Value.int Go.IntKind.u8 0), .v (Go.Value.int Go.IntKind.u8 0), .v (Go.Value.int Go.IntKind.u8 0), .v (Go.Value.int Go.IntKind.u8 0), .v (Go.Value.int Go.IntKind.u8 0), .v (Go.Value.int Go.IntKind.u8 0), .v (Go.Value.slice none 0 0), .v (Go.Value.int Go.IntKind.u8 0), .v (Go.Value.int Go.IntKind.u8 0), .v (Go.Value.int Go.IntKind.u8 0), .v (Go.Value.int Go.IntKind.u8 0)] := by kernel_rfl
theorem fld_50_0 : fld Try.prog 50 0 = some (0, 5) := by kernel_rfl
theorem fld_50_1 : fld Try.prog 50 1 = some (1, 47) := by kernel_rfl
theorem fld_50_2 : fld Try.prog 50 2 = some (13, 47) := by kernel_rfl
theorem fld_50_3 : fld Try.prog 50 3 = some (25, 48) := by kernel_rfl
theorem fld_50_4 : fld Try.prog 50 4 = some (26, 49) := by kernel_rfl
theorem stf_50 : stf Try.prog 50 = some [(0, 1), (1, 12), (13, 12), (25, 1), (26, 4)] := by kernel_rfl
theorem arr_50 : arr Try.prog 50 = none := by kernel_rfl
theorem apf_50 : apf Try.prog 50 = some (30, 64) := by kernel_rfl
theorem tyc_51 : tyc Try.prog 51 = some (true, 30) := by kernel_rfl
theorem zer_51 : zer Try.prog 51 = some [Go.Value.int Go.IntKind.u8 0, Go.Value.int Go.IntKind.u8 0, Go.Value.int Go.IntKind.u8 0, Go.Value.int Go.IntKind.u8 0, Go.Value.int Go.IntKind.u8 0, Go.Value.int Go.IntKind.u8 0, Go.Value.int Go.IntKind.u8 0, Go.Value.int Go.IntKind.u8 0, Go.Value.int Go.IntKind.u8 0, Go.Value.int Go.IntKind.u8 0, Go.Value.int Go.IntKind.u8 0, Go.Value.int Go.IntKind.u8 0, Go.Value.int Go.IntKind.u8 0, Go.Value.int Go.IntKind.u8 0, Go.Value.int Go.IntKind.u8 0, Go.Value.int Go.IntKind.u8 0, Go.Value.int Go.IntKind.u8 0, Go.Value.int Go.IntKind.u8 0, Go.Value.int Go.IntKind.u8 0, Go.Value.int Go.IntKind.u8 0, Go.Value.int Go.IntKind.u8 0, Go.Value.int Go.IntKind.u8 0, Go.Value.int Go.IntKind.u8 0, Go.Value.int Go.IntKind.u8 0, Go.Value.int Go.IntKind.u8 0, Go.Value.slice none 0 0, Go.Value.int Go.IntKind.u8 0, Go.Value.int Go.IntKind.u8 0, Go.Value.int Go.IntKind.u8 0, Go.Value.int Go.IntKind.u8 0] := by kernel_rfl
theorem zds_51 : zds Try.prog 51 = some [.v (Go.Value.int Go.IntKind.u8 0), .v (Go.Value.int Go.IntKind.u8 0), .v (Go.Value.int Go.IntKind.u8 0), .v (Go.Value.int Go.IntKind.u8 0), .v (Go.Value.int Go.IntKind.u8 0), .v (Go.Value.int Go.IntKind.u8 0), .v (Go.Value.int Go.IntKind.u8 0), .v (Go.Value.int Go.IntKind.u8 0), .v (Go.Value.int Go.IntKind.u8 0), .v (Go.Value.int Go.IntKind.u8 0), .v (Go.Value.int Go.IntKind.u8 0), .v (Go.Value.int Go.IntKind.u8 0), .v (Go.Value.int Go.IntKind.u8 0), .v (Go.Value.int Go.IntKind.u8 0), .v (Go.Value.int Go.IntKind.u8 0), .v (Go.Value.int Go.IntKind.u8 0), .v (Go.Value.int Go.IntKind.u8 0), .v (Go.Value.int Go.IntKind.u8 0), .v (Go.Value.int Go.IntKind.u8 0), .v (Go.Value.int Go.IntKind.u8 0), .v (Go.Value.int Go.IntKind.u8 0), .v (Go.Value.int Go.IntKind.u8 0), .v (Go.Value.int Go.IntKind.u8 0), .v (Go.Value.int Go.IntKind.u8 0), .v (Go.Value.int Go.IntKind.u8 0), .v (Go.Value.slice none 0 0), .v (Go.Value.int Go.IntKind.u8 0), .v (Go.Value.int Go.IntKind.u8 0), .v (Go.Value.int Go.IntKind.u8 0), .v (Go.Value.int Go.IntKind.u8 0)] := by kernel_rfl
theorem fld_51_0 : fld Try.prog 51 0 = some (0, 5) := by kernel_rfl
theorem fld_51_1 : fld Try.prog 51 1 = some (1, 47) := by kernel_rfl
theorem fld_51_2 : fld Try.prog 51 2 = some (13, 47) := by kernel_rfl
theorem fld_51_3 : fld Try.prog 51 3 = some (25, 48) := by kernel_rfl
theorem fld_51_4 : fld Try.prog 51 4 = some (26, 49) := by kernel_rfl
theorem stf_51 : stf Try.prog 51 = some [(0, 1), (1, 12), (13, 12), (25, 1), (26, 4)] := by kernel_rfl
theorem arr_51 : arr Try.prog 51 = none := by kernel_rfl
theorem apf_51 : apf Try.prog 51 = some (30, 64) := by kernel_rfl
theorem tyc_52 : tyc Try.prog 52 = some (true, 3) := by kernel_rfl
theorem zer_52 : zer Try.prog 52 = some [Go.Value.int Go.IntKind.u8 0, Go.Value.int Go.IntKind.u8 0, Go.Value.int Go.IntKind.u8 0] := by kernel_rfl
theorem zds_52 : zds Try.prog 52 = some [.v (Go.Value.int Go.IntKind.u8 0), .v (Go.Value.int Go.IntKind.u8 0), .v (Go.Value.int Go.IntKind.u8 0)] := by kernel_rfl
theorem arr_52 : arr Try.prog 52 = some (3, 5, 1) := by kernel_rfl
theorem stf_52 : stf Try.prog 52 = none := by kernel_rfl
theorem apf_52 : apf Try.prog 52 = some (3, 3) := by kernel_rfl
theorem tyc_53 : tyc Try.prog 53 = some (false, 1) := by kernel_rfl
theorem zer_53 : zer Try.prog 53 = some [Go.Value.slice none 0 0] := by kernel_rfl
theorem zds_53 : zds Try.prog 53 = some [.sl 6 []] := by kernel_rfl
theorem elt_53 : elt Try.prog 53 = some (62, 6) := by kernel_rfl
theorem apf_53 : apf Try.prog 53 = some (1, 24) := by kernel_rfl
theorem tyc_54 : tyc Try.prog 54 = some (true, 4) := by kernel_rfl
theorem zer_54 : zer Try.prog 54 = some [Go.Value.slice none 0 0, Go.Value.slice none 0 0, Go.Value.int Go.IntKind.i64 0, Go.Value.slice none 0 0] := by kernel_rfl
theorem zds_54 : zds Try.prog 54 = some [.v (Go.Value.slice none 0 0), .v (Go.Value.slice none 0 0), .v (Go.Value.int Go.IntKind.i64 0), .v (Go.Value.slice none 0 0)] := by kernel_rfl
theorem fld_54_0 : fld Try.prog 54 0 = some (0, 27) := by kernel_rfl
theorem fld_54_1 : fld Try.prog 54 1 = some (1, 27) := by kernel_rfl
theorem fld_54_2 : fld Try.prog 54 2 = some (2, 3) := by kernel_rfl
theorem fld_54_3 : fld Try.prog 54 3 = some (3, 53) := by kernel_rfl
theorem stf_54 : stf Try.prog 54 = some [(0, 1), (1, 1), (2, 1), (3, 1)] := by kernel_rfl
theorem arr_54 : arr Try.prog 54 = none := by kernel_rfl
theorem apf_54 : apf Try.prog 54 = some (4, 80) := by kernel_rfl
theorem tyc_55 : tyc Try.prog 55 = some (true, 4) := by kernel_rfl
theorem zer_55 : zer Try.prog 55 = some [Go.Value.slice none 0 0, Go.Value.slice none 0 0, Go.Value.int Go.IntKind.i64 0, Go.Value.slice none 0 0] := by kernel_rfl
theorem zds_55 : zds Try.prog 55 = some [.v (Go.Value.slice none 0 0), .v (Go.Value.slice none 0 0), .v (Go.Value.int Go.IntKind.i64 0), .v (Go.Value.slice none 0 0)] := by kernel_rfl
theorem fld_55_0 : fld Try.prog 55 0 = some (0, 27) := by kernel_rfl
theorem fld_55_1 : fld Try.prog 55 1 = some (1, 27) := by kernel_rfl
theorem fld_55_2 : fld Try.prog 55 2 = some (2, 3) := by kernel_rfl
theorem fld_55_3 : fld Try.prog 55 3 = some (3, 53) := by kernel_rfl
theorem stf_55 : stf Try.prog 55 = some [(0, 1), (1, 1), (2, 1), (3, 1)] := by kernel_rfl
theorem arr_55 : arr Try.prog 55 = none := by kernel_rfl
theorem apf_55 : apf Try.prog 55 = some (4, 80) := by kernel_rfl
theorem tyc_56 : tyc Try.prog 56 = some (true, 4) := by kernel_rfl
theorem zer_56 : zer Try.prog 56 = some [Go.Value.int Go.IntKind.i64 0, Go.Value.int Go.IntKind.i64 0, Go.Value.int Go.IntKind.i64 0, Go.Value.int Go.IntKind.i64 0] := by kernel_rfl
theorem zds_56 : zds Try.prog 56 = some [.v (Go.Value.int Go.IntKind.i64 0), .v (Go.Value.int Go.IntKind.i64 0), .v (Go.Value.int Go.IntKind.i64 0), .v (Go.Value.int Go.IntKind.i64 0)] := by kernel_rfl
theorem fld_56_0 : fld Try.prog 56 0 = some (0, 3) := by kernel_rfl
theorem fld_56_1 : fld Try.prog 56 1 = some (1, 3) := by kernel_rfl
theorem fld_56_2 : fld Try.prog 56 2 = some (2, 3) := by kernel_rfl
theorem fld_56_3 : fld Try.prog 56 3 = some (3, 3) := by kernel_rfl
theorem stf_56 : stf Try.prog 56 = some [(0, 1), (1, 1), (2, 1), (3, 1)] := by kernel_rfl
theorem arr_56 : arr Try.prog 56 = none := by kernel_rfl
theorem apf_56 : apf Try.prog 56 = some (4, 32) := by kernel_rfl
theorem tyc_57 : tyc Try.prog 57 = some (true, 4) := by kernel_rfl
theorem zer_57 : zer Try.prog 57 = some [Go.Value.int Go.IntKind.i64 0, Go.Value.int Go.IntKind.i64 0, Go.Value.int Go.IntKind.i64 0, Go.Value.int Go.IntKind.i64 0] := by kernel_rfl
theorem zds_57 : zds Try.prog 57 = some [.v (Go.Value.int Go.IntKind.i64 0), .v (Go.Value.int Go.IntKind.i64 0), .v (Go.Value.int Go.IntKind.i64 0), .v (Go.Value.int Go.IntKind.i64 0)] := by kernel_rfl
theorem fld_57_0 : fld Try.prog 57 0 = some (0, 3) := by kernel_rfl
theorem fld_57_1 : fld Try.prog 57 1 = some (1, 3) := by kernel_rfl
theorem fld_57_2 : fld Try.prog 57 2 = some (2, 3) := by kernel_rfl
theorem fld_57_3 : fld Try.prog 57 3 = some (3, 3) := by kernel_rfl
theorem stf_57 : stf Try.prog 57 = some [(0, 1), (1, 1), (2, 1), (3, 1)] := by kernel_rfl
theorem arr_57 : arr Try.prog 57 = none := by kernel_rfl
theorem apf_57 : apf Try.prog 57 = some (4, 32) := by kernel_rfl
theorem tyc_59 : tyc Try.prog 59 = some (false, 1) := by kernel_rfl
theorem zer_59 : zer Try.prog 59 = some [Go.Value.nilFunc] := by kernel_rfl
theorem tyc_60 : tyc Try.prog 60 = some (false, 1) := by kernel_rfl
theorem zer_60 : zer Try.prog 60 = some [Go.Value.nilFunc] := by kernel_rfl
theorem tyc_61 : tyc Try.prog 61 = some (true, 6) := by kernel_rfl
theorem zer_61 : zer Try.prog 61 = some [Go.Value.int Go.IntKind.i64 0, Go.Value.int Go.IntKind.i64 0, Go.Value.int Go.IntKind.i64 0, Go.Value.int Go.IntKind.i64 0, Go.Value.int Go.IntKind.i64 0, Go.Value.int Go.IntKind.i64 0] := by kernel_rfl
theorem zds_61 : zds Try.prog 61 = some [.v (Go.Value.int Go.IntKind.i64 0), .v (Go.Value.int Go.IntKind.i64 0), .v (Go.Value.int Go.IntKind.i64 0), .v (Go.Value.int Go.IntKind.i64 0), .v (Go.Value.int Go.IntKind.i64 0), .v (Go.Value.int Go.IntKind.i64 0)] := by kernel_rfl
theorem fld_61_0 : fld Try.prog 61 0 = some (0, 25) := by kernel_rfl
theorem fld_61_1 : fld Try.prog 61 1 = some (2, 25) := by kernel_rfl
theorem fld_61_2 : fld Try.prog 61 2 = some (4, 25) := by kernel_rfl
theorem stf_61 : stf Try.prog 61 = some [(0, 2), (2, 2), (4, 2)] := by kernel_rfl
theorem arr_61 : arr Try.prog 61 = none := by kernel_rfl
theorem apf_61 : apf Try.prog 61 = some (6, 48) := by kernel_rfl
theorem tyc_62 : tyc Try.prog 62 = some (true, 6) := by kernel_rfl
theorem zer_62 : zer Try.prog 62 = some [Go.Value.int Go.IntKind.i64 0, Go.Value.int Go.IntKind.i64 0, Go.Value.int Go.IntKind.i64 0, Go.Value.int Go.IntKind.i64 0, Go.Value.int Go.IntKind.i64 0, Go.Value.int Go.IntKind.i64 0] := by kernel_rfl
theorem zds_62 : zds Try.prog 62 = some [.v (Go.Value.int Go.IntKind.i64 0), .v (Go.Value.int Go.IntKind.i64 0), .v (Go.Value.int Go.IntKind.i64 0), .v (Go.Value.int Go.IntKind.i64 0), .v (Go.Value.int Go.IntKind.i64 0), .v (Go.Value.int Go.IntKind.i64 0)] := by kernel_rfl
theorem fld_62_0 : fld Try.prog 62 0 = some (0, 25) := by kernel_rfl
theorem fld_62_1 : fld Try.prog 62 1 = some (2, 25) := by kernel_rfl
theorem fld_62_2 : fld Try.prog 62 2 = some (4, 25) := by kernel_rfl
theorem stf_62 : stf Try.prog 62 = some [(0, 2), (2, 2), (4, 2)] := by kernel_rfl
theorem arr_62 : arr Try.prog 62 = none := by kernel_rfl
theorem apf_62 : apf Try.prog 62 = some (6, 48) := by kernel_rfl
theorem tyc_63 : tyc Try.prog 63 = some (false, 1) := by kernel_rfl
theorem zer_63 : zer Try.prog 63 = some [Go.Value.nilFunc] := by kernel_rfl
theorem tyc_65 : tyc Try.prog 65 = some (false, 1) := by kernel_rfl
theorem zer_65 : zer Try.prog 65 = some [Go.Value.nilFunc] := by kernel_rfl
theorem tyc_66 : tyc Try.prog 66 = some (false, 1) := by kernel_rfl
theorem zer_66 : zer Try.prog 66 = some [Go.Value.nilFunc] := by kernel_rfl
theorem tyc_67 : tyc Try.prog 67 = some (true, 4) := by kernel_rfl
theorem zer_67 : zer Try.prog 67 = some [Go.Value.int Go.IntKind.i64 0, Go.Value.slice none 0 0, Go.Value.slice none 0 0, Go.Value.slice none 0 0] := by kernel_rfl
theorem zds_67 : zds Try.prog 67 = some [.v (Go.Value.int Go.IntKind.i64 0), .v (Go.Value.slice none 0 0), .v (Go.Value.slice none 0 0), .v (Go.Value.slice none 0 0)] := by kernel_rfl
theorem fld_67_0 : fld Try.prog 67 0 = some (0, 30) := by kernel_rfl
theorem fld_67_1 : fld Try.prog 67 1 = some (3, 34) := by kernel_rfl
theorem stf_67 : stf Try.prog 67 = some [(0, 3), (3, 1)] := by kernel_rfl
theorem arr_67 : arr Try.prog 67 = none := by kernel_rfl
theorem apf_67 : apf Try.prog 67 = some (4, 80) := by kernel_rfl
theorem tyc_68 : tyc Try.prog 68 = some (true, 4) := by kernel_rfl
theorem zer_68 : zer Try.prog 68 = some [Go.Value.int Go.IntKind.i64 0, Go.Value.slice none 0 0, Go.Value.slice none 0 0, Go.Value.slice none 0 0] := by kernel_rfl
theorem zds_68 : zds Try.prog 68 = some [.v (Go.Value.int Go.IntKind.i64 0), .v (Go.Value.slice none 0 0), .v (Go.Value.slice none 0 0), .v (Go.Value.slice none 0 0)] := by kernel_rfl
theorem fld_68_0 : fld Try.prog 68 0 = some (0, 30) := by kernel_rfl
theorem fld_68_1 : fld Try.prog 68 1 = some (3, 34) := by kernel_rfl
theorem stf_68 : stf Try.prog 68 = some [(0, 3), (3, 1)] := by kernel_rfl
theorem arr_68 : arr Try.prog 68 = none := by kernel_rfl
theorem apf_68 : apf Try.prog 68 = some (4, 80) := by kernel_rfl
theorem tyc_70 : tyc Try.prog 70 = some (false, 1) := by kernel_rfl
theorem zer_70 : zer Try.prog 70 = some [Go.Value.nilFunc] := by kernel_rfl
theorem tyc_71 : tyc Try.prog 71 = some (false, 1) := by kernel_rfl
theorem zer_71 : zer Try.prog 71 = some [Go.Value.nilFunc] := by kernel_rfl
theorem tyc_72 : tyc Try.prog 72 = some (true, 7) := by kernel_rfl
theorem zer_72 : zer Try.prog 72 = some [Go.Value.int Go.IntKind.i64 0, Go.Value.int Go.IntKind.i64 0, Go.Value.int Go.IntKind.i64 0, Go.Value.int Go.IntKind.i64 0, Go.Value.int Go.IntKind.i64 0, Go.Value.int Go.IntKind.i64 0, Go.Value.int Go.IntKind.i64 0] := by kernel_rfl
theorem zds_72 : zds Try.prog 72 = some [.v (Go.Value.int Go.IntKind.i64 0), .v (Go.Value.int Go.IntKind.i64 0), .v (Go.Value.int Go.IntKind.i64 0), .v (Go.Value.int Go.IntKind.i64 0), .v (Go.Value.int Go.IntKind.i64 0), .v (Go.Value.int Go.IntKind.i64 0), .v (Go.Value.int Go.IntKind.i64 0)] := by kernel_rfl
theorem fld_72_0 : fld Try.prog 72 0 = some (0, 25) := by kernel_rfl
theorem fld_72_1 : fld Try.prog 72 1 = some (2, 25) := by kernel_rfl
theorem fld_72_2 : fld Try.prog 72 2 = some (4, 25) := by kernel_rfl
theorem fld_72_3 : fld Try.prog 72 3 = some (6, 3) := by kernel_rfl
theorem stf_72 : stf Try.prog 72 = some [(0, 2), (2, 2), (4, 2), (6, 1)] := by kernel_rfl
theorem arr_72 : arr Try.prog 72 = none := by kernel_rfl
theorem apf_72 : apf Try.prog 72 = some (7, 56) := by kernel_rfl
theorem tyc_73 : tyc Try.prog 73 = some (true, 7) := by kernel_rfl
theorem zer_73 : zer Try.prog 73 = some [Go.Value.int Go.IntKind.i64 0, Go.Value.int Go.IntKind.i64 0, Go.Value.int Go.IntKind.i64 0, Go.Value.int Go.IntKind.i64 0, Go.Value.int Go.IntKind.i64 0, Go.Value.int Go.IntKind.i64 0, Go.Value.int Go.IntKind.i64 0] := by kernel_rfl
theorem zds_73 : zds Try.prog 73 = some [.v (Go.Value.int Go.IntKind.i64 0), .v (Go.Value.int Go.IntKind.i64 0), .v (Go.Value.int Go.IntKind.i64 0), .v (Go.Value.int Go.IntKind.i64 0), .v (Go.Value.int Go.IntKind.i64 0), .v (Go.Value.int Go.IntKind.i64 0), .v (Go.Value.int Go.IntKind.i64 0)] := by kernel_rfl
theorem fld_73_0 : fld Try.prog 73 0 = some (0, 25) := by kernel_rfl
theorem fld_73_1 : fld Try.prog 73 1 = some (2, 25) := by kernel_rfl
theorem fld_73_2 : fld Try.prog 73 2 = some (4, 25) := by kernel_rfl
theorem fld_73_3 : fld Try.prog 73 3 = some (6, 3) := by kernel_rfl
theorem stf_73 : stf Try.prog 73 = some [(0, 2), (2, 2), (4, 2), (6, 1)] := by kernel_rfl
theorem arr_73 : arr Try.prog 73 = none := by kernel_rfl
theorem apf_73 : apf Try.prog 73 = some (7, 56) := by kernel_rfl
theorem tyc_74 : tyc Try.prog 74 = some (false, 1) := by kernel_rfl
theorem zer_74 : zer Try.prog 74 = some [Go.Value.nilFunc] := by kernel_rfl
theorem tyc_75 : tyc Try.prog 75 = some (false, 1) := by kernel_rfl
theorem zer_75 : zer Try.prog 75 = some [Go.Value.nilFunc] := by kernel_rfl
theorem tyc_76 : tyc Try.prog 76 = some (false, 1) := by kernel_rfl
theorem zer_76 : zer Try.prog 76 = some [Go.Value.nilFunc] := by kernel_rfl
theorem tyc_77 : tyc Try.prog 77 = some (false, 1) := by kernel_rfl
theorem zer_77 : zer Try.prog 77 = some [Go.Value.nilFunc] := by kernel_rfl
theorem tyc_78 : tyc Try.prog 78 = some (false, 1) := by kernel_rfl
theorem zer_78 : zer Try.prog 78 = some [Go.Value.nilFunc] := by kernel_rfl
theorem tyc_79 : tyc Try.prog 79 = some (false, 1) := by kernel_rfl
theorem zer_79 : zer Try.prog 79 = some [Go.Value.nilFunc] := by kernel_rfl
theorem tyc_80 : tyc Try.prog 80 = some (true, 2) := by kernel_rfl
theorem zer_80 : zer Try.prog 80 = some [Go.Value.int Go.IntKind.i64 0, Go.Value.int Go.IntKind.i64 0] := by kernel_rfl
theorem zds_80 : zds Try.prog 80 = some [.v (Go.Value.int Go.IntKind.i64 0), .v (Go.Value.int Go.IntKind.i64 0)] := by kernel_rfl
theorem fld_80_0 : fld Try.prog 80 0 = some (0, 3) := by kernel_rfl
theorem fld_80_1 : fld Try.prog 80 1 = some (1, 3) := by kernel_rfl
theorem stf_80 : stf Try.prog 80 = some [(0, 1), (1, 1)] := by kernel_rfl
theorem arr_80 : arr Try.prog 80 = none := by kernel_rfl
theorem apf_80 : apf Try.prog 80 = some (2, 16) := by kernel_rfl
theorem tyc_81 : tyc Try.prog 81 = some (true, 2) := by kernel_rfl
theorem zer_81 : zer Try.prog 81 = some [Go.Value.int Go.IntKind.i64 0, Go.Value.int Go.IntKind.i64 0] := by kernel_rfl
theorem zds_81 : zds Try.prog 81 = some [.v (Go.Value.int Go.IntKind.i64 0), .v (Go.Value.int Go.IntKind.i64 0)] := by kernel_rfl
theorem fld_81_0 : fld Try.prog 81 0 = some (0, 3) := by kernel_rfl
theorem fld_81_1 : fld Try.prog 81 1 = some (1, 3) := by kernel_rfl
theorem stf_81 : stf Try.prog 81 = some [(0, 1), (1, 1)] := by kernel_rfl
theorem arr_81 : arr Try.prog 81 = none := by kernel_rfl
theorem apf_81 : apf Try.prog 81 = some (2, 16) := by kernel_rfl
theorem tyc_83 : tyc Try.prog 83 = some (false, 1) := by kernel_rfl
theorem zer_83 : zer Try.prog 83 = some [Go.Value.nilFunc] := by kernel_rfl
theorem tyc_84 : tyc Try.prog 84 = some (true, 3) := by kernel_rfl
theorem zer_84 : zer Try.prog 84 = some [Go.Value.int Go.IntKind.i64 0, Go.Value.int Go.IntKind.i64 0, Go.Value.int Go.IntKind.i64 0] := by kernel_rfl
theorem zds_84 : zds Try.prog 84 = some [.v (Go.Value.int Go.IntKind.i64 0), .v (Go.Value.int Go.IntKind.i64 0), .v (Go.Value.int Go.IntKind.i64 0)] := by kernel_rfl
theorem fld_84_0 : fld Try.prog 84 0 = some (0, 3) := by kernel_rfl
theorem fld_84_1 : fld Try.prog 84 1 = some (1, 3) := by kernel_rfl
theorem fld_84_2 : fld Try.prog 84 2 = some (2, 3) := by kernel_rfl
theorem stf_84 : stf Try.prog 84 = some [(0, 1), (1, 1), (2, 1)] := by kernel_rfl
theorem arr_84 : arr Try.prog 84 = none := by kernel_rfl
theorem apf_84 : apf Try.prog 84 = some (3, 24) := by kernel_rfl
theorem tyc_85 : tyc Try.prog 85 = some (true, 3) := by kernel_rfl
theorem zer_85 : zer Try.prog 85 = some [Go.Value.int Go.IntKind.i64 0, Go.Value.int Go.IntKind.i64 0, Go.Value.int Go.IntKind.i64 0] := by kernel_rfl
theorem zds_85 : zds Try.prog 85 = some [.v (Go.Value.int Go.IntKind.i64 0), .v (Go.Value.int Go.IntKind.i64 0), .v (Go.Value.int Go.IntKind.i64 0)] := by kernel_rfl
theorem fld_85_0 : fld Try.prog 85 0 = some (0, 3) := by kernel_rfl
theorem fld_85_1 : fld Try.prog 85 1 = some (1, 3) := by kernel_rfl
theorem fld_85_2 : fld Try.prog 85 2 = some (2, 3) := by kernel_rfl
theorem stf_85 : stf Try.prog 85 = some [(0, 1), (1, 1), (2, 1)] := by kernel_rfl
theorem arr_85 : arr Try.prog 85 = none := by kernel_rfl
theorem apf_85 : apf Try.prog 85 = some (3, 24) := by kernel_rfl
theorem tyc_87 : tyc Try.prog 87 = some (false, 1) := by kernel_rfl
theorem zer_87 : zer Try.prog 87 = some [Go.Value.nilFunc] := by kernel_rfl
theorem tyc_88 : tyc Try.prog 88 = some (false, 1) := by kernel_rfl
theorem zer_88 : zer Try.prog 88 = some [Go.Value.nilFunc] := by kernel_rfl
theorem tyc_89 : tyc Try.prog 89 = some (false, 1) := by kernel_rfl
theorem zer_89 : zer Try.prog 89 = some [Go.Value.slice none 0 0] := by kernel_rfl
theorem zds_89 : zds Try.prog 89 = some [.sl 2 []] := by kernel_rfl
theorem elt_89 : elt Try.prog 89 = some (133, 2) := by kernel_rfl
theorem apf_89 : apf Try.prog 89 = some (1, 24) := by kernel_rfl
theorem tyc_91 : tyc Try.prog 91 = some (false, 1) := by kernel_rfl
theorem zer_91 : zer Try.prog 91 = some [Go.Value.nilFunc] := by kernel_rfl
theorem tyc_92 : tyc Try.prog 92 = some (true, 6) := by kernel_rfl
theorem zer_92 : zer Try.prog 92 = some [Go.Value.slice none 0 0, Go.Value.slice none 0 0, Go.Value.int Go.IntKind.i64 0, Go.Value.slice none 0 0, Go.Value.slice none 0 0, Go.Value.slice none 0 0] := by kernel_rfl
theorem zds_92 : zds Try.prog 92 = some [.v (Go.Value.slice none 0 0), .v (Go.Value.slice none 0 0), .v (Go.Value.int Go.IntKind.i64 0), .v (Go.Value.slice none 0 0), .v (Go.Value.slice none 0 0), .v (Go.Value.slice none 0 0)] := by kernel_rfl
theorem fld_92_0 : fld Try.prog 92 0 = some (0, 55) := by kernel_rfl
theorem fld_92_1 : fld Try.prog 92 1 = some (4, 27) := by kernel_rfl
theorem fld_92_2 : fld Try.prog 92 2 = some (5, 27) := by kernel_rfl
theorem stf_92 : stf Try.prog 92 = some [(0, 4), (4, 1), (5, 1)] := by kernel_rfl
theorem arr_92 : arr Try.prog 92 = none := by kernel_rfl
theorem apf_92 : apf Try.prog 92 = some (6, 128) := by kernel_rfl
theorem tyc_93 : tyc Try.prog 93 = some (true, 6) := by kernel_rfl
theorem zer_93 : zer Try.prog 93 = some [Go.Value.slice none 0 0, Go.Value.slice none 0 0, Go.Value.int Go.IntKind.i64 0, Go.Value.slice none 0 0, Go.Value.slice none 0 0, Go.Value.slice none 0 0] := by kernel_rfl
theorem zds_93 : zds Try.prog 93 = some [.v (Go.Value.slice none 0 0), .v (Go.Value.slice none 0 0), .v (Go.Value.int Go.IntKind.i64 0), .v (Go.Value.slice none 0 0), .v (Go.Value.slice none 0 0), .v (Go.Value.slice none 0 0)] := by kernel_rfl
theorem fld_93_0 : fld Try.prog 93 0 = some (0, 55) := by kernel_rfl
theorem fld_93_1 : fld Try.prog 93 1 = some (4, 27) := by kernel_rfl
theorem fld_93_2 : fld Try.prog 93 2 = some (5, 27) := by kernel_rfl
theorem stf_93 : stf Try.prog 93 = some [(0, 4), (4, 1), (5, 1)] := by kernel_rfl
theorem arr_93 : arr Try.prog 93 = none := by kernel_rfl
theorem apf_93 : apf Try.prog 93 = some (6, 128) := by kernel_rfl
theorem tyc_95 : tyc Try.prog 95 = some (false, 1) := by kernel_rfl
theorem zer_95 : zer Try.prog 95 = some [Go.Value.nilFunc] := by kernel_rfl
theorem tyc_96 : tyc Try.prog 96 = some (false, 1) := by kernel_rfl
theorem zer_96 : zer Try.prog 96 = some [Go.Value.slice none 0 0] := by kernel_rfl
theorem zds_96 : zds Try.prog 96 = some [.sl 4 []] := by kernel_rfl
theorem elt_96 : elt Try.prog 96 = some (118, 4) := by kernel_rfl
theorem apf_96 : apf Try.prog 96 = some (1, 24) := by kernel_rfl
theorem tyc_97 : tyc Try.prog 97 = some (true, 3) := by kernel_rfl
theorem zer_97 : zer Try.prog 97 = some [Go.Value.slice none 0 0, Go.Value.slice none 0 0, Go.Value.slice none 0 0] := by kernel_rfl
theorem zds_97 : zds Try.prog 97 = some [.v (Go.Value.slice none 0 0), .v (Go.Value.slice none 0 0), .v (Go.Value.slice none 0 0)] := by kernel_rfl
theorem fld_97_0 : fld Try.prog 97 0 = some (0, 28) := by kernel_rfl
theorem fld_97_1 : fld Try.prog 97 1 = some (1, 28) := by kernel_rfl
theorem fld_97_2 : fld Try.prog 97 2 = some (2, 96) := by kernel_rfl
theorem stf_97 : stf Try.prog 97 = some [(0, 1), (1, 1), (2, 1)] := by kernel_rfl
theorem arr_97 : arr Try.prog 97 = none := by kernel_rfl
theorem apf_97 : apf Try.prog 97 = some (3, 72) := by kernel_rfl
theorem tyc_98 : tyc Try.prog 98 = some (true, 3) := by kernel_rfl
theorem zer_98 : zer Try.prog 98 = some [Go.Value.slice none 0 0, Go.Value.slice none 0 0, Go.Value.slice none 0 0] := by kernel_rfl
theorem zds_98 : zds Try.prog 98 = some [.v (Go.Value.slice none 0 0), .v (Go.Value.slice none 0 0), .v (Go.Value.slice none 0 0)] := by kernel_rfl
theorem fld_98_0 : fld Try.prog 98 0 = some (0, 28) := by kernel_rfl
theorem fld_98_1 : fld Try.prog 98 1 = some (1, 28) := by kernel_rfl
theorem fld_98_2 : fld Try.prog 98 2 = some (2, 96) := by kernel_rfl
theorem stf_98 : stf Try.prog 98 = some [(0, 1), (1, 1), (2, 1)] := by kernel_rfl
theorem arr_98 : arr Try.prog 98 = none := by kernel_rfl
theorem apf_98 : apf Try.prog 98 = some (3, 72) := by kernel_rfl
theorem tyc_99 : tyc Try.prog 99 = some (false, 1) := by kernel_rfl
theorem zer_99 : zer Try.prog 99 = some [Go.Value.nilFunc] := by kernel_rfl
theorem tyc_100 : tyc Try.prog 100 = some (false, 1) := by kernel_rfl
theorem zer_100 : zer Try.prog 100 = some [Go.Value.nilFunc] := by kernel_rfl
theorem tyc_101 : tyc Try.prog 101 = some (false, 1) := by kernel_rfl
theorem zer_101 : zer Try.prog 101 = some [Go.Value.nilFunc] := by kernel_rfl
theorem tyc_102 : tyc Try.prog 102 = some (false, 1) := by kernel_rfl
theorem zer_102 : zer Try.prog 102 = some [Go.Value.nilFunc] := by kernel_rfl
theorem tyc_103 : tyc Try.prog 103 = some (false, 1) := by kernel_rfl
theorem zer_103 : zer Try.prog 103 = some [Go.Value.nilFunc] := by kernel_rfl
theorem tyc_104 : tyc Try.prog 104 = some (false, 1) := by kernel_rfl
theorem zer_104 : zer Try.prog 104 = some [Go.Value.nilFunc] := by kernel_rfl
theorem tyc_105 : tyc Try.prog 105 = some (false, 1) := by kernel_rfl
theorem zer_105 : zer Try.prog 105 = some [Go.Value.nilFunc] := by kernel_rfl
theorem tyc_106 : tyc Try.prog 106 = some (false, 1) := by kernel_rfl
theorem zer_106 : zer Try.prog 106 = some [Go.Value.nilFunc] := by kernel_rfl
theorem tyc_107 : tyc Try.prog 107 = some (false, 1) := by kernel_rfl
theorem zer_107 : zer Try.prog 107 = some [Go.Value.nilFunc] := by kernel_rfl
theorem tyc_108 : tyc Try.prog 108 = some (true, 3) := by kernel_rfl
theorem zer_108 : zer Try.prog 108 = some [Go.Value.slice none 0 0, Go.Value.int Go.IntKind.i64 0, Go.Value.int Go.IntKind.i64 0] := by kernel_rfl
theorem zds_108 : zds Try.prog 108 = some [.v (Go.Value.slice none 0 0), .v (Go.Value.int Go.IntKind.i64 0), .v (Go.Value.int Go.IntKind.i64 0)] := by kernel_rfl
theorem fld_108_0 : fld Try.prog 108 0 = some (0, 41) := by kernel_rfl
theorem stf_108 : stf Try.prog 108 = some [(0, 3)] := by kernel_rfl
theorem arr_108 : arr Try.prog 108 = none := by kernel_rfl
theorem apf_108 : apf Try.prog 108 = some (3, 40) := by kernel_rfl
theorem tyc_109 : tyc Try.prog 109 = some (true, 3) := by kernel_rfl
theorem zer_109 : zer Try.prog 109 = some [Go.Value.slice none 0 0, Go.Value.int Go.IntKind.i64 0, Go.Value.int Go.IntKind.i64 0] := by kernel_rfl
theorem zds_109 : zds Try.prog 109 = some [.v (Go.Value.slice none 0 0), .v (Go.Value.int Go.IntKind.i64 0), .v (Go.Value.int Go.IntKind.i64 0)] := by kernel_rfl
theorem fld_109_0 : fld Try.prog 109 0 = some (0, 41) := by kernel_rfl
theorem stf_109 : stf Try.prog 109 = some [(0, 3)] := by kernel_rfl
theorem arr_109 : arr Try.prog 109 = none := by kernel_rfl
theorem apf_109 : apf Try.prog 109 = some (3, 40) := by kernel_rfl
theorem tyc_111 : tyc Try.prog 111 = some (false, 1) := by kernel_rfl
theorem zer_111 : zer Try.prog 111 = some [Go.Value.nilFunc] := by kernel_rfl
theorem tyc_112 : tyc Try.prog 112 = some (false, 1) := by kernel_rfl
theorem zer_112 : zer Try.prog 112 = some [Go.Value.nilFunc] := by kernel_rfl
theorem tyc_113 : tyc Try.prog 113 = some (false, 1) := by kernel_rfl
theorem zer_113 : zer Try.prog 113 = some [Go.Value.nilFunc] := by kernel_rfl
theorem tyc_114 : tyc Try.prog 114 = some (false, 1) := by kernel_rfl
theorem zer_114 : zer Try.prog 114 = some [Go.Value.nilFunc] := by kernel_rfl
theorem tyc_115 : tyc Try.prog 115 = some (false, 1) := by kernel_rfl
theorem zer_115 : zer Try.prog 115 = some [Go.Value.nilFunc] := by kernel_rfl
theorem tyc_116 : tyc Try.prog 116 = some (false, 1) := by kernel_rfl
theorem zer_116 : zer Try.prog 116 = some [Go.Value.nilFunc] := by kernel_rfl
theorem tyc_117 : tyc Try.prog 117 = some (true, 4) := by kernel_rfl
theorem zer_117 : zer Try.prog 117 = some [Go.Value.int Go.IntKind.i64 0, Go.Value.int Go.IntKind.i64 0, Go.Value.int Go.IntKind.i64 0, Go.Value.int Go.IntKind.i64 0] := by kernel_rfl
theorem zds_117 : zds Try.prog 117 = some [.v (Go.Value.int Go.IntKind.i64 0), .v (Go.Value.int Go.IntKind.i64 0), .v (Go.Value.int Go.IntKind.i64 0), .v (Go.Value.int Go.IntKind.i64 0)] := by kernel_rfl
theorem fld_117_0 : fld Try.prog 117 0 = some (0, 25) := by kernel_rfl
theorem fld_117_1 : fld Try.prog 117 1 = some (2, 25) := by kernel_rfl
theorem stf_117 : stf Try.prog 117 = some [(0, 2), (2, 2)] := by kernel_rfl
theorem arr_117 : arr Try.prog 117 = none := by kernel_rfl
theorem apf_117 : apf Try.prog 117 = some (4, 32) := by kernel_rfl
theorem tyc_118 : tyc Try.prog 118 = some (true, 4) := by kernel_rfl
theorem zer_118 : zer Try.prog 118 = some [Go.Value.int Go.IntKind.i64 0, Go.Value.int Go.IntKind.i64 0, Go.Value.int Go.IntKind.i64 0, Go.Value.int Go.IntKind.i64 0] := by kernel_rfl
theorem zds_118 : zds Try.prog 118 = some [.v (Go.Value.int Go.IntKind.i64 0), .v (Go.Value.int Go.IntKind.i64 0), .v (Go.Value.int Go.IntKind.i64 0), .v (Go.Value.int Go.IntKind.i64 0)] := by kernel_rfl
theorem fld_118_0 : fld Try.prog 118 0 = some (0, 25) := by kernel_rfl
theorem fld_118_1 : fld Try.prog 118 1 = some (2, 25) := by kernel_rfl
theorem stf_118 : stf Try.prog 118 = some [(0, 2), (2, 2)] := by kernel_rfl
theorem arr_118 : arr Try.prog 118 = none := by kernel_rfl
theorem apf_118 : apf Try.prog 118 = some (4, 32) := by kernel_rfl
theorem tyc_120 : tyc Try.prog 120 = some (false, 1) := by kernel_rfl
theorem zer_120 : zer Try.prog 120 = some [Go.Value.nilFunc] := by kernel_rfl
theorem tyc_121 : tyc Try.prog 121 = some (false, 1) := by kernel_rfl
theorem zer_121 : zer Try.prog 121 = some [Go.Value.nilFunc] := by kernel_rfl
theorem tyc_122 : tyc Try.prog 122 = some (true, 2) := by kernel_rfl
theorem zer_122 : zer Try.prog 122 = some [Go.Value.bool false, Go.Value.int Go.IntKind.i64 0] := by kernel_rfl
theorem zds_122 : zds Try.prog 122 = some [.v (Go.Value.bool false), .v (Go.Value.int Go.IntKind.i64 0)] := by kernel_rfl
theorem fld_122_0 : fld Try.prog 122 0 = some (0, 4) := by kernel_rfl
theorem fld_122_1 : fld Try.prog 122 1 = some (1, 36) := by kernel_rfl
theorem stf_122 : stf Try.prog 122 = some [(0, 1), (1, 1)] := by kernel_rfl
theorem arr_122 : arr Try.prog 122 = none := by kernel_rfl
theorem apf_122 : apf Try.prog 122 = some (2, 16) := by kernel_rfl
theorem tyc_123 : tyc Try.prog 123 = some (false, 1) := by kernel_rfl
theorem zer_123 : zer Try.prog 123 = some [Go.Value.nilFunc] := by kernel_rfl
theorem tyc_124 : tyc Try.prog 124 = some (false, 1) := by kernel_rfl
theorem zer_124 : zer Try.prog 124 = some [Go.Value.nilFunc] := by kernel_rfl
theorem tyc_125 : tyc Try.prog 125 = some (false, 1) := by kernel_rfl
theorem zer_125 : zer Try.prog 125 = some [Go.Value.nilFunc] := by kernel_rfl
theorem tyc_126 : tyc Try.prog 126 = some (false, 1) := by kernel_rfl
theorem zer_126 : zer Try.prog 126 = some [Go.Value.nilFunc] := by kernel_rfl
theorem tyc_127 : tyc Try.prog 127 = some (true, 12) := by kernel_rfl
theorem zer_127 : zer Try.prog 127 = some [Go.Value.bool false, Go.Value.int Go.IntKind.i64 0, Go.Value.bool false, Go.Value.int Go.IntKind.i64 0, Go.Value.bool false, Go.Value.int Go.IntKind.i64 0, Go.Value.bool false, Go.Value.int Go.IntKind.i64 0, Go.Value.bool false, Go.Value.int Go.IntKind.i64 0, Go.Value.bool false, Go.Value.int Go.IntKind.i64 0] := by kernel_rfl
theorem zds_127 : zds Try.prog 127 = some [.v (Go.Value.bool false), .v (Go.Value.int Go.IntKind.i64 0), .v (Go.Value.bool false), .v (Go.Value.int Go.IntKind.i64 0), .v (Go.Value.bool false), .v (Go.Value.int Go.IntKind.i64 0), .v (Go.Value.bool false), .v (Go.Value.int Go.IntKind.i64 0), .v (Go.Value.bool false), .v (Go.Value.int Go.IntKind.i64 0), .v (Go.Value.bool false), .v (Go.Value.int Go.IntKind.i64 0)] := by kernel_rfl
theorem arr_127 : arr Try.prog 127 = some (6, 122, 2) := by kernel_rfl
theorem stf_127 : stf Try.prog 127 = none := by kernel_rfl
theorem apf_127 : apf Try.prog 127 = some (12, 96) := by kernel_rfl
theorem tyc_128 : tyc Try.prog 128 = some (false, 1) := by kernel_rfl
theorem zer_128 : zer Try.prog 128 = some [Go.Value.nilFunc] := by kernel_rfl
theorem tyc_129 : tyc Try.prog 129 = some (false, 1) := by kernel_rfl
theorem zer_129 : zer Try.prog 129 = some [Go.Value.nilFunc] := by kernel_rfl
theorem tyc_130 : tyc Try.prog 130 = some (false, 1) := by kernel_rfl
theorem zer_130 : zer Try.prog 130 = some [Go.Value.nilFunc] := by kernel_rfl
theorem tyc_131 : tyc Try.prog 131 = some (false, 1) := by kernel_rfl
theorem zer_131 : zer Try.prog 131 = some [Go.Value.map none] := by kernel_rfl
theorem zds_131 : zds Try.prog 131 = some [.v (Go.Value.map none)] := by kernel_rfl
theorem mpt_131 : mpt Try.prog 131 = some (.i64, 28) := by kernel_rfl
theorem apf_131 : apf Try.prog 131 = some (1, 8) := by kernel_rfl
theorem tyc_132 : tyc Try.prog 132 = some (true, 2) := by kernel_rfl
theorem zer_132 : zer Try.prog 132 = some [Go.Value.int Go.IntKind.i64 0, Go.Value.int Go.IntKind.i64 0] := by kernel_rfl
theorem zds_132 : zds Try.prog 132 = some [.v (Go.Value.int Go.IntKind.i64 0), .v (Go.Value.int Go.IntKind.i64 0)] := by kernel_rfl
theorem fld_132_0 : fld Try.prog 132 0 = some (0, 3) := by kernel_rfl
theorem fld_132_1 : fld Try.prog 132 1 = some (1, 3) := by kernel_rfl
theorem stf_132 : stf Try.prog 132 = some [(0, 1), (1, 1)] := by kernel_rfl
theorem arr_132 : arr Try.prog 132 = none := by kernel_rfl
theorem apf_132 : apf Try.prog 132 = some (2, 16) := by kernel_rfl
theorem tyc_133 : tyc Try.prog 133 = some (true, 2) := by kernel_rfl
theorem zer_133 : zer Try.prog 133 = some [Go.Value.int Go.IntKind.i64 0, Go.Value.int Go.IntKind.i64 0] := by kernel_rfl
theorem zds_133 : zds Try.prog 133 = some [.v (Go.Value.int Go.IntKind.i64 0), .v (Go.Value.int Go.IntKind.i64 0)] := by kernel_rfl
theorem fld_133_0 : fld Try.prog 133 0 = some (0, 3) := by kernel_rfl
theorem fld_133_1 : fld Try.prog 133 1 = some (1, 3) := by kernel_rfl
theorem stf_133 : stf Try.prog 133 = some [(0, 1), (1, 1)] := by kernel_rfl
theorem arr_133 : arr Try.prog 133 = none := by kernel_rfl
theorem apf_133 : apf Try.prog 133 = some (2, 16) := by kernel_rfl
theorem tyc_134 : tyc Try.prog 134 = some (false, 1) := by kernel_rfl
theorem zer_134 : zer Try.prog 134 = some [Go.Value.nilFunc] := by kernel_rfl
theorem tyc_136 : tyc Try.prog 136 = some (false, 1) := by kernel_rfl
theorem zer_136 : zer Try.prog 136 = some [Go.Value.nilFunc] := by kernel_rfl
theorem tyc_137 : tyc Try.prog 137 = some (false, 1) := by kernel_rfl
theorem zer_137 : zer Try.prog 137 = some [Go.Value.nilFunc] := by kernel_rfl
theorem tyc_138 : tyc Try.prog 138 = some (false, 1) := by kernel_rfl
theorem zer_138 : zer Try.prog 138 = some [Go.Value.nilFunc] := by kernel_rfl
theorem tyc_139 : tyc Try.prog 139 = some (false, 1) := by kernel_rfl
theorem zer_139 : zer Try.prog 139 = some [Go.Value.nilFunc] := by kernel_rfl
theorem tyc_140 : tyc Try.prog 140 = some (false, 1) := by kernel_rfl
theorem zer_140 : zer Try.prog 140 = some [Go.Value.nilFunc] := by kernel_rfl
theorem tyc_141 : tyc Try.prog 141 = some (false, 1) := by kernel_rfl
theorem zer_141 : zer Try.prog 141 = some [Go.Value.nilFunc] := by kernel_rfl
theorem tyc_142 : tyc Try.prog 142 = some (false, 1) := by kernel_rfl
theorem zer_142 : zer Try.prog 142 = some [Go.Value.nilFunc] := by kernel_rfl
theorem tyc_143 : tyc Try.prog 143 = some (false, 1) := by kernel_rfl
theorem zer_143 : zer Try.prog 143 = some [Go.Value.nilFunc] := by kernel_rfl
theorem tyc_144 : tyc Try.prog 144 = some (false, 1) := by kernel_rfl
theorem zer_144 : zer Try.prog 144 = some [Go.Value.nilFunc] := by kernel_rfl
theorem tyc_145 : tyc Try.prog 145 = some (false, 1) := by kernel_rfl
theorem zer_145 : zer Try.prog 145 = some [Go.Value.nilFunc] := by kernel_rfl
theorem tyc_146 : tyc Try.prog 146 = some (false, 1) := by kernel_rfl
theorem zer_146 : zer Try.prog 146 = some [Go.Value.nilFunc] := by kernel_rfl
theorem tyc_147 : tyc Try.prog 147 = some (false, 1) := by kernel_rfl
theorem zer_147 : zer Try.prog 147 = some [Go.Value.nilFunc] := by kernel_rfl
theorem tyc_148 : tyc Try.prog 148 = some (false, 1) := by kernel_rfl
theorem zer_148 : zer Try.prog 148 = some [Go.Value.nilFunc] := by kernel_rfl
theorem tyc_149 : tyc Try.prog 149 = some (false, 1) := by kernel_rfl
theorem zer_149 : zer Try.prog 149 = some [Go.Value.nilFunc] := by kernel_rfl
theorem tyc_150 : tyc Try.prog 150 = some (false, 1) := by kernel_rfl
theorem zer_150 : zer Try.prog 150 = some [Go.Value.nilFunc] := by kernel_rfl
theorem tyc_151 : tyc Try.prog 151 = some (false, 1) := by kernel_rfl
theorem zer_151 : zer Try.prog 151 = some [Go.Value.nilFunc] := by kernel_rfl
theorem tyc_152 : tyc Try.prog 152 = some (true, 4) := by kernel_rfl
theorem zer_152 : zer Try.prog 152 = some [Go.Value.pointer none, Go.Value.pointer none, Go.Value.pointer none, Go.Value.string { data := #[] }] := by kernel_rfl
theorem zds_152 : zds Try.prog 152 = some [.v (Go.Value.pointer none), .v (Go.Value.pointer none), .v (Go.Value.pointer none), .v (Go.Value.string { data := #[] })] := by kernel_rfl
theorem fld_152_0 : fld Try.prog 152 0 = some (0, 17) := by kernel_rfl
theorem fld_152_1 : fld Try.prog 152 1 = some (1, 17) := by kernel_rfl
theorem fld_152_2 : fld Try.prog 152 2 = some (2, 17) := by kernel_rfl
theorem fld_152_3 : fld Try.prog 152 3 = some (3, 9) := by kernel_rfl
theorem stf_152 : stf Try.prog 152 = some [(0, 1), (1, 1), (2, 1), (3, 1)] := by kernel_rfl
theorem arr_152 : arr Try.prog 152 = none := by kernel_rfl
theorem apf_152 : apf Try.prog 152 = some (4, 40) := by kernel_rfl
theorem tyc_153 : tyc Try.prog 153 = some (true, 4) := by kernel_rfl
theorem zer_153 : zer Try.prog 153 = some [Go.Value.pointer none, Go.Value.pointer none, Go.Value.pointer none, Go.Value.string { data := #[] }] := by kernel_rfl
theorem zds_153 : zds Try.prog 153 = some [.v (Go.Value.pointer none), .v (Go.Value.pointer none), .v (Go.Value.pointer none), .v (Go.Value.string { data := #[] })] := by kernel_rfl
theorem fld_153_0 : fld Try.prog 153 0 = some (0, 17) := by kernel_rfl
theorem fld_153_1 : fld Try.prog 153 1 = some (1, 17) := by kernel_rfl
theorem fld_153_2 : fld Try.prog 153 2 = some (2, 17) := by kernel_rfl
theorem fld_153_3 : fld Try.prog 153 3 = some (3, 9) := by kernel_rfl
theorem stf_153 : stf Try.prog 153 = some [(0, 1), (1, 1), (2, 1), (3, 1)] := by kernel_rfl
theorem arr_153 : arr Try.prog 153 = none := by kernel_rfl
theorem apf_153 : apf Try.prog 153 = some (4, 40) := by kernel_rfl
theorem tyc_154 : tyc Try.prog 154 = some (true, 0) := by kernel_rfl
theorem zer_154 : zer Try.prog 154 = some [] := by kernel_rfl
theorem zds_154 : zds Try.prog 154 = some [] := by kernel_rfl
theorem arr_154 : arr Try.prog 154 = some (0, 16, 1) := by kernel_rfl
theorem stf_154 : stf Try.prog 154 = none := by kernel_rfl
theorem tyc_155 : tyc Try.prog 155 = some (true, 0) := by kernel_rfl
theorem zer_155 : zer Try.prog 155 = some [] := by kernel_rfl
theorem zds_155 : zds Try.prog 155 = some [] := by kernel_rfl
theorem stf_155 : stf Try.prog 155 = some [(0, 0)] := by kernel_rfl
theorem arr_155 : arr Try.prog 155 = none := by kernel_rfl
theorem tyc_156 : tyc Try.prog 156 = some (true, 0) := by kernel_rfl
theorem zer_156 : zer Try.prog 156 = some [] := by kernel_rfl
theorem zds_156 : zds Try.prog 156 = some [] := by kernel_rfl
theorem stf_156 : stf Try.prog 156 = some [(0, 0)] := by kernel_rfl
theorem arr_156 : arr Try.prog 156 = none := by kernel_rfl
theorem tyc_157 : tyc Try.prog 157 = some (false, 1) := by kernel_rfl
theorem zer_157 : zer Try.prog 157 = some [Go.Value.int Go.IntKind.u32 0] := by kernel_rfl
theorem zds_157 : zds Try.prog 157 = some [.v (Go.Value.int Go.IntKind.u32 0)] := by kernel_rfl
theorem und_157 : Try.prog.underlying 157 = some (.int .u32) := by kernel_rfl
theorem apf_157 : apf Try.prog 157 = some (1, 4) := by kernel_rfl
theorem tyc_158 : tyc Try.prog 158 = some (false, 1) := by kernel_rfl
theorem zer_158 : zer Try.prog 158 = some [Go.Value.int Go.IntKind.u8 0] := by kernel_rfl
theorem zds_158 : zds Try.prog 158 = some [.v (Go.Value.int Go.IntKind.u8 0)] := by kernel_rfl
theorem und_158 : Try.prog.underlying 158 = some (.int .u8) := by kernel_rfl
theorem apf_158 : apf Try.prog 158 = some (1, 1) := by kernel_rfl
theorem tyc_159 : tyc Try.prog 159 = some (false, 1) := by kernel_rfl
theorem zer_159 : zer Try.prog 159 = some [Go.Value.int Go.IntKind.u8 0] := by kernel_rfl
theorem zds_159 : zds Try.prog 159 = some [.v (Go.Value.int Go.IntKind.u8 0)] := by kernel_rfl
theorem und_159 : Try.prog.underlying 159 = some (.int .u8) := by kernel_rfl
theorem apf_159 : apf Try.prog 159 = some (1, 1) := by kernel_rfl
theorem tyc_160 : tyc Try.prog 160 = some (false, 1) := by kernel_rfl
theorem zer_160 : zer Try.prog 160 = some [Go.Value.nilFunc] := by kernel_rfl
theorem tyc_161 : tyc Try.prog 161 = some (false, 1) := by kernel_rfl
theorem zer_161 : zer Try.prog 161 = some [Go.Value.pointer none] := by kernel_rfl
theorem zds_161 : zds Try.prog 161 = some [.v (Go.Value.pointer none)] := by kernel_rfl
theorem apf_161 : apf Try.prog 161 = some (1, 8) := by kernel_rfl
theorem tyc_162 : tyc Try.prog 162 = some (false, 1) := by kernel_rfl
theorem zer_162 : zer Try.prog 162 = some [Go.Value.int Go.IntKind.i32 0] := by kernel_rfl
theorem zds_162 : zds Try.prog 162 = some [.v (Go.Value.int Go.IntKind.i32 0)] := by kernel_rfl
theorem und_162 : Try.prog.underlying 162 = some (.int .i32) := by kernel_rfl
theorem apf_162 : apf Try.prog 162 = some (1, 4) := by kernel_rfl
theorem tyc_163 : tyc Try.prog 163 = some (false, 1) := by kernel_rfl
theorem zer_163 : zer Try.prog 163 = some [Go.Value.int Go.IntKind.i32 0] := by kernel_rfl
theorem zds_163 : zds Try.prog 163 = some [.v (Go.Value.int Go.IntKind.i32 0)] := by kernel_rfl
theorem und_163 : Try.prog.underlying 163 = some (.int .i32) := by kernel_rfl
theorem apf_163 : apf Try.prog 163 = some (1, 4) := by kernel_rfl
theorem tyc_164 : tyc Try.prog 164 = some (true, 11) := by kernel_rfl
theorem zer_164 : zer Try.prog 164 = some [Go.Value.int Go.IntKind.u64 0, Go.Value.int Go.IntKind.u64 0, Go.Value.int Go.IntKind.u32 0, Go.Value.int Go.IntKind.u8 0, Go.Value.int Go.IntKind.u8 0, Go.Value.int Go.IntKind.u8 0, Go.Value.int Go.IntKind.u8 0, Go.Value.nilFunc, Go.Value.pointer none, Go.Value.int Go.IntKind.i32 0, Go.Value.int Go.IntKind.i32 0] := by kernel_rfl
theorem zds_164 : zds Try.prog 164 = some [.v (Go.Value.int Go.IntKind.u64 0), .v (Go.Value.int Go.IntKind.u64 0), .v (Go.Value.int Go.IntKind.u32 0), .v (Go.Value.int Go.IntKind.u8 0), .v (Go.Value.int Go.IntKind.u8 0), .v (Go.Value.int Go.IntKind.u8 0), .v (Go.Value.int Go.IntKind.u8 0), .v (Go.Value.nilFunc), .v (Go.Value.pointer none), .v (Go.Value.int Go.IntKind.i32 0), .v (Go.Value.int Go.IntKind.i32 0)] := by kernel_rfl
theorem fld_164_0 : fld Try.prog 164 0 = some (0, 12) := by kernel_rfl
theorem fld_164_1 : fld Try.prog 164 1 = some (1, 12) := by kernel_rfl
theorem fld_164_2 : fld Try.prog 164 2 = some (2, 157) := by kernel_rfl
theorem fld_164_3 : fld Try.prog 164 3 = some (3, 158) := by kernel_rfl
theorem fld_164_4 : fld Try.prog 164 4 = some (4, 5) := by kernel_rfl
theorem fld_164_5 : fld Try.prog 164 5 = some (5, 5) := by kernel_rfl
theorem fld_164_6 : fld Try.prog 164 6 = some (6, 159) := by kernel_rfl
theorem fld_164_7 : fld Try.prog 164 7 = some (7, 160) := by kernel_rfl
theorem fld_164_8 : fld Try.prog 164 8 = some (8, 161) := by kernel_rfl
theorem fld_164_9 : fld Try.prog 164 9 = some (9, 162) := by kernel_rfl
theorem fld_164_10 : fld Try.prog 164 10 = some (10, 163) := by kernel_rfl
theorem stf_164 : stf Try.prog 164 = some [(0, 1), (1, 1), (2, 1), (3, 1), (4, 1), (5, 1), (6, 1), (7, 1), (8, 1), (9, 1), (10, 1)] := by kernel_rfl
theorem arr_164 : arr Try.prog 164 = none := by kernel_rfl
theorem apf_164 : apf Try.prog 164 = some (11, 48) := by kernel_rfl
theorem tyc_165 : tyc Try.prog 165 = some (true, 11) := by kernel_rfl
theorem zer_165 : zer Try.prog 165 = some [Go.Value.int Go.IntKind.u64 0, Go.Value.int Go.IntKind.u64 0, Go.Value.int Go.IntKind.u32 0, Go.Value.int Go.IntKind.u8 0, Go.Value.int Go.IntKind.u8 0, Go.Value.int Go.IntKind.u8 0, Go.Value.int Go.IntKind.u8 0, Go.Value.nilFunc, Go.Value.pointer none, Go.Value.int Go.IntKind.i32 0, Go.Value.int Go.IntKind.i32 0] := by kernel_rfl
theorem zds_165 : zds Try.prog 165 = some [.v (Go.Value.int Go.IntKind.u64 0), .v (Go.Value.int Go.IntKind.u64 0), .v (Go.Value.int Go.IntKind.u32 0), .v (Go.Value.int Go.IntKind.u8 0), .v (Go.Value.int Go.IntKind.u8 0), .v (Go.Value.int Go.IntKind.u8 0), .v (Go.Value.int Go.IntKind.u8 0), .v (Go.Value.nilFunc), .v (Go.Value.pointer none), .v (Go.Value.int Go.IntKind.i32 0), .v (Go.Value.int Go.IntKind.i32 0)] := by kernel_rfl
theorem fld_165_0 : fld Try.prog 165 0 = some (0, 12) := by kernel_rfl
theorem fld_165_1 : fld Try.prog 165 1 = some (1, 12) := by kernel_rfl
theorem fld_165_2 : fld Try.prog 165 2 = some (2, 157) := by kernel_rfl
theorem fld_165_3 : fld Try.prog 165 3 = some (3, 158) := by kernel_rfl
theorem fld_165_4 : fld Try.prog 165 4 = some (4, 5) := by kernel_rfl
theorem fld_165_5 : fld Try.prog 165 5 = some (5, 5) := by kernel_rfl
theorem fld_165_6 : fld Try.prog 165 6 = some (6, 159) := by kernel_rfl
theorem fld_165_7 : fld Try.prog 165 7 = some (7, 160) := by kernel_rfl
theorem fld_165_8 : fld Try.prog 165 8 = some (8, 161) := by kernel_rfl
theorem fld_165_9 : fld Try.prog 165 9 = some (9, 162) := by kernel_rfl
theorem fld_165_10 : fld Try.prog 165 10 = some (10, 163) := by kernel_rfl
theorem stf_165 : stf Try.prog 165 = some [(0, 1), (1, 1), (2, 1), (3, 1), (4, 1), (5, 1), (6, 1), (7, 1), (8, 1), (9, 1), (10, 1)] := by kernel_rfl
theorem arr_165 : arr Try.prog 165 = none := by kernel_rfl
theorem apf_165 : apf Try.prog 165 = some (11, 48) := by kernel_rfl
theorem tyc_166 : tyc Try.prog 166 = some (false, 1) := by kernel_rfl
theorem zer_166 : zer Try.prog 166 = some [Go.Value.nilFunc] := by kernel_rfl
theorem tyc_168 : tyc Try.prog 168 = some (false, 1) := by kernel_rfl
theorem zer_168 : zer Try.prog 168 = some [Go.Value.nilFunc] := by kernel_rfl
theorem zro_28 : zro Try.prog 28 = some (Go.Value.slice none 0 0) := by kernel_rfl
theorem fun_0 : Try.prog.funcs[0]? = some Try.f0 := by kernel_rfl
theorem fun_1 : Try.prog.funcs[1]? = some Try.f1 := by kernel_rfl
theorem fun_2 : Try.prog.funcs[2]? = some Try.f2 := by kernel_rfl
theorem fun_3 : Try.prog.funcs[3]? = some Try.f3 := by kernel_rfl
theorem fun_4 : Try.prog.funcs[4]? = some Try.f4 := by kernel_rfl
theorem fun_5 : Try.prog.funcs[5]? = some Try.f5 := by kernel_rfl
theorem fun_6 : Try.prog.funcs[6]? = some Try.f6 := by kernel_rfl
theorem fun_7 : Try.prog.funcs[7]? = some Try.f7 := by kernel_rfl
theorem fun_8 : Try.prog.funcs[8]? = some Try.f8 := by kernel_rfl
theorem fun_9 : Try.prog.funcs[9]? = some Try.f9 := by kernel_rfl
theorem fun_10 : Try.prog.funcs[10]? = some Try.f10 := by kernel_rfl
theorem fun_11 : Try.prog.funcs[11]? = some Try.f11 := by kernel_rfl
theorem fun_12 : Try.prog.funcs[12]? = some Try.f12 := by kernel_rfl
theorem fun_13 : Try.prog.funcs[13]? = some Try.f13 := by kernel_rfl
theorem fun_14 : Try.prog.funcs[14]? = some Try.f14 := by kernel_rfl
theorem fun_15 : Try.prog.funcs[15]? = some Try.f15 := by kernel_rfl
theorem fun_16 : Try.prog.funcs[16]? = some Try.f16 := by kernel_rfl
theorem fun_17 : Try.prog.funcs[17]? = some Try.f17 := by kernel_rfl
theorem fun_18 : Try.prog.funcs[18]? = some Try.f18 := by kernel_rfl
theorem fun_19 : Try.prog.funcs[19]? = some Try.f19 := by kernel_rfl
theorem fun_20 : Try.prog.funcs[20]? = some Try.f20 := by kernel_rfl
theorem fun_21 : Try.prog.funcs[21]? = some Try.f21 := by kernel_rfl
theorem fun_22 : Try.prog.funcs[22]? = some Try.f22 := by kernel_rfl
theorem fun_23 : Try.prog.funcs[23]? = some Try.f23 := by kernel_rfl
theorem fun_24 : Try.prog.funcs[24]? = some Try.f24 := by kernel_rfl
theorem fun_25 : Try.prog.funcs[25]? = some Try.f25 := by kernel_rfl
theorem fun_26 : Try.prog.funcs[26]? = some Try.f26 := by kernel_rfl
theorem fun_27 : Try.prog.funcs[27]? = some Try.f27 := by kernel_rfl
theorem fun_28 : Try.prog.funcs[28]? = some Try.f28 := by kernel_rfl
theorem fun_29 : Try.prog.funcs[29]? = some Try.f29 := by kernel_rfl
theorem fun_30 : Try.prog.funcs[30]? = some Try.f30 := by kernel_rfl
theorem fun_31 : Try.prog.funcs[31]? = some Try.f31 := by kernel_rfl
theorem fun_32 : Try.prog.funcs[32]? = some Try.f32 := by kernel_rfl
theorem fun_33 : Try.prog.funcs[33]? = some Try.f33 := by kernel_rfl
theorem fun_34 : Try.prog.funcs[34]? = some Try.f34 := by kernel_rfl
theorem fun_35 : Try.prog.funcs[35]? = some Try.f35 := by kernel_rfl
theorem fun_36 : Try.prog.funcs[36]? = some Try.f36 := by kernel_rfl
theorem fun_37 : Try.prog.funcs[37]? = some Try.f37 := by kernel_rfl
theorem fun_38 : Try.prog.funcs[38]? = some Try.f38 := by kernel_rfl
theorem fun_39 : Try.prog.funcs[39]? = some Try.f39 := by kernel_rfl
theorem fun_40 : Try.prog.funcs[40]? = some Try.f40 := by kernel_rfl
theorem fun_41 : Try.prog.funcs[41]? = some Try.f41 := by kernel_rfl
theorem fun_42 : Try.prog.funcs[42]? = some Try.f42 := by kernel_rfl
theorem fun_43 : Try.prog.funcs[43]? = some Try.f43 := by kernel_rfl
theorem fun_44 : Try.prog.funcs[44]? = some Try.f44 := by kernel_rfl
theorem fun_45 : Try.prog.funcs[45]? = some Try.f45 := by kernel_rfl
theorem fun_46 : Try.prog.funcs[46]? = some Try.f46 := by kernel_rfl
theorem fun_47 : Try.prog.funcs[47]? = some Try.f47 := by kernel_rfl
theorem fun_48 : Try.prog.funcs[48]? = some Try.f48 := by kernel_rfl
theorem fun_49 : Try.prog.funcs[49]? = some Try.f49 := by kernel_rfl
theorem fun_50 : Try.prog.funcs[50]? = some Try.f50 := by kernel_rfl
theorem fun_51 : Try.prog.funcs[51]? = some Try.f51 := by kernel_rfl
theorem fun_52 : Try.prog.funcs[52]? = some Try.f52 := by kernel_rfl
theorem fun_53 : Try.prog.funcs[53]? = some Try.f53 := by kernel_rfl
theorem fun_54 : Try.prog.funcs[54]? = some Try.f54 := by kernel_rfl
theorem fun_55 : Try.prog.funcs[55]? = some Try.f55 := by kernel_rfl
theorem fun_56 : Try.prog.funcs[56]? = some Try.f56 := by kernel_rfl
theorem fun_57 : Try.prog.funcs[57]? = some Try.f57 := by kernel_rfl
theorem fun_58 : Try.prog.funcs[58]? = some Try.f58 := by kernel_rfl
theorem fun_59 : Try.prog.funcs[59]? = some Try.f59 := by kernel_rfl
theorem fun_60 : Try.prog.funcs[60]? = some Try.f60 := by kernel_rfl
theorem fun_61 : Try.prog.funcs[61]? = some Try.f61 := by kernel_rfl
theorem fun_62 : Try.prog.funcs[62]? = some Try.f62 := by kernel_rfl
theorem fun_63 : Try.prog.funcs[63]? = some Try.f63 := by kernel_rfl
theorem fun_64 : Try.prog.funcs[64]? = some Try.f64 := by kernel_rfl
theorem fun_65 : Try.prog.funcs[65]? = some Try.f65 := by kernel_rfl
theorem fun_66 : Try.prog.funcs[66]? = some Try.f66 := by kernel_rfl
theorem fun_67 : Try.prog.funcs[67]? = some Try.f67 := by kernel_rfl
theorem fun_68 : Try.prog.funcs[68]? = some Try.f68 := by kernel_rfl
theorem fun_69 : Try.prog.funcs[69]? = some Try.f69 := by kernel_rfl
theorem fun_70 : Try.prog.funcs[70]? = some Try.f70 := by kernel_rfl
theorem fun_71 : Try.prog.funcs[71]? = some Try.f71 := by kernel_rfl
theorem fun_72 : Try.prog.funcs[72]? = some Try.f72 := by kernel_rfl
theorem fun_73 : Try.prog.funcs[73]? = some Try.f73 := by kernel_rfl
theorem fun_74 : Try.prog.funcs[74]? = some Try.f74 := by kernel_rfl
theorem fun_75 : Try.prog.funcs[75]? = some Try.f75 := by kernel_rfl
theorem fun_76 : Try.prog.funcs[76]? = some Try.f76 := by kernel_rfl
theorem fun_77 : Try.prog.funcs[77]? = some Try.f77 := by kernel_rfl
theorem fun_78 : Try.prog.funcs[78]? = some Try.f78 := by kernel_rfl
theorem fun_79 : Try.prog.funcs[79]? = some Try.f79 := by kernel_rfl
theorem fun_80 : Try.prog.funcs[80]? = some Try.f80 := by kernel_rfl
theorem fun_81 : Try.prog.funcs[81]? = some Try.f81 := by kernel_rfl
theorem fun_82 : Try.prog.funcs[82]? = some Try.f82 := by kernel_rfl
theorem fun_83 : Try.prog.funcs[83]? = some Try.f83 := by kernel_rfl
theorem fun_84 : Try.prog.funcs[84]? = some Try.f84 := by kernel_rfl
theorem fun_85 : Try.prog.funcs[85]? = some Try.f85 := by kernel_rfl
theorem fun_86 : Try.prog.funcs[86]? = some Try.f86 := by kernel_rfl
theorem fun_87 : Try.prog.funcs[87]? = some Try.f87 := by kernel_rfl
theorem fun_88 : Try.prog.funcs[88]? = some Try.f88 := by kernel_rfl
theorem fun_89 : Try.prog.funcs[89]? = some Try.f89 := by kernel_rfl
theorem fun_90 : Try.prog.funcs[90]? = some Try.f90 := by kernel_rfl
theorem fun_91 : Try.prog.funcs[91]? = some Try.f91 := by kernel_rfl
theorem fun_92 : Try.prog.funcs[92]? = some Try.f92 := by kernel_rfl
theorem fun_93 : Try.prog.funcs[93]? = some Try.f93 := by kernel_rfl
theorem fun_94 : Try.prog.funcs[94]? = some Try.f94 := by kernel_rfl
theorem fun_95 : Try.prog.funcs[95]? = some Try.f95 := by kernel_rfl
def fA0 := (And.intro (And.intro (And.intro (And.intro (And.intro (And.intro (And.intro (And.intro (And.intro @tyc_1 @zer_1) (And.intro @tyc_2 (And.intro @zer_2 @zds_2))) (And.intro (And.intro @und_2 (And.intro @apf_2 @tyc_3)) (And.intro @zer_3 (And.intro @zds_3 @und_3)))) (And.intro (And.intro (And.intro @apf_3 (And.intro @tyc_4 @zer_4)) (And.intro @zds_4 (And.intro @und_4 @apf_4))) (And.intro (And.intro @tyc_5 (And.intro @zer_5 @zds_5)) (And.intro @und_5 (And.intro @apf_5 @tyc_6))))) (And.intro (And.intro (And.intro (And.intro @zer_6 (And.intro @zds_6 @und_6)) (And.intro @apf_6 (And.intro @tyc_7 @zer_7))) (And.intro (And.intro @zds_7 (And.intro @fld_7_0 @fld_7_1)) (And.intro @fld_7_2 (And.intro @fld_7_3 @stf_7)))) (And.intro (And.intro (And.intro @arr_7 (And.intro @apf_7 @tyc_8)) (And.intro @zer_8 (And.intro @zds_8 @fld_8_0))) (And.intro (And.intro @fld_8_1 (And.intro @fld_8_2 @fld_8_3)) (And.intro @stf_8 (And.intro @arr_8 @apf_8)))))) (And.intro (And.intro (And.intro (And.intro (And.intro @tyc_9 @zer_9) (And.intro @zds_9 (And.intro @apf_9 @tyc_10))) (And.intro (And.intro @zer_10 (And.intro @zds_10 @apf_10)) (And.intro @tyc_11 (And.intro @zer_11 @zds_11)))) (And.intro (And.intro (And.intro @apf_11 (And.intro @tyc_12 @zer_12)) (And.intro @zds_12 (And.intro @und_12 @apf_12))) (And.intro (And.intro @tyc_13 (And.intro @zer_13 @zds_13)) (And.intro @fld_13_0 (And.intro @fld_13_1 @stf_13))))) (And.intro (And.intro (And.intro (And.intro @arr_13 (And.intro @apf_13 @tyc_14)) (And.intro @zer_14 (And.intro @zds_14 @fld_14_0))) (And.intro (And.intro @fld_14_1 (And.intro @stf_14 @arr_14)) (And.intro @apf_14 (And.intro @tyc_15 @zer_15)))) (And.intro (And.intro (And.intro @zds_15 (And.intro @apf_15 @tyc_16)) (And.intro @zer_16 (And.intro @zds_16 @apf_16))) (And.intro (And.intro @tyc_17 (And.intro @zer_17 @zds_17)) (And.intro @apf_17 (And.intro @tyc_18 @zer_18))))))) (And.intro (And.intro (And.intro (And.intro (And.intro (And.intro @zds_18 @fld_18_0) (And.intro @stf_18 (And.intro @arr_18 @apf_18))) (And.intro (And.intro @tyc_19 (And.intro @zer_19 @zds_19)) (And.intro @fld_19_0 (And.intro @stf_19 @arr_19)))) (And.intro (And.intro (And.intro @apf_19 (And.intro @tyc_21 @zer_21)) (And.intro @zds_21 (And.intro @und_21 @apf_21))) (And.intro (And.intro @tyc_22 (And.intro @zer_22 @zds_22)) (And.intro @arr_22 (And.intro @stf_22 @apf_22))))) (And.intro (And.intro (And.intro (And.intro @tyc_23 (And.intro @zer_23 @zds_23)) (And.intro @elt_23 (And.intro @apf_23 @tyc_24))) (And.intro (And.intro @zer_24 (And.intro @zds_24 @fld_24_0)) (And.intro @fld_24_1 (And.intro @stf_24 @arr_24)))) (And.intro (And.intro (And.intro @apf_24 (And.intro @tyc_25 @zer_25)) (And.intro @zds_25 (And.intro @fld_25_0 @fld_25_1))) (And.intro (And.intro @stf_25 (And.intro @arr_25 @apf_25)) (And.intro @tyc_26 (And.intro @zer_26 @tyc_27)))))) (And.intro (And.intro (And.intro (And.intro (And.intro @zer_27 (And.intro @zds_27 @elt_27)) (And.intro @apf_27 (And.intro @tyc_28 @zer_28))) (And.intro (And.intro @zds_28 (And.intro @elt_28 @apf_28)) (And.intro @tyc_29 (And.intro @zer_29 @zds_29)))) (And.intro (And.intro (And.intro @fld_29_0 (And.intro @fld_29_1 @fld_29_2)) (And.intro @stf_29 (And.intro @arr_29 @apf_29))) (And.intro (And.intro @tyc_30 (And.intro @zer_30 @zds_30)) (And.intro @fld_30_0 (And.intro @fld_30_1 @fld_30_2))))) (And.intro (And.intro (And.intro (And.intro @stf_30 (And.intro @arr_30 @apf_30)) (And.intro @tyc_31 (And.intro @zer_31 @zds_31))) (And.intro (And.intro @und_31 (And.intro @apf_31 @tyc_32)) (And.intro @zer_32 (And.intro @zds_32 @fld_32_0)))) (And.intro (And.intro (And.intro @fld_32_1 (And.intro @fld_32_2 @fld_32_3)) (And.intro @stf_32 (And.intro @arr_32 @apf_32))) (And.intro (And.intro @tyc_33 (And.intro @zer_33 @zds_33)) (And.intro @fld_33_0 (And.intro @fld_33_1 @fld_33_2)))))))) (And.intro (And.intro (And.intro (And.intro (And.intro (And.intro (And.intro @fld_33_3 @stf_33) (And.intro @arr_33 (And.intro @apf_33 @tyc_34))) (And.intro (And.intro @zer_34 (And.intro @zds_34 @elt_34)) (And.intro @apf_34 (And.intro @tyc_35 @zer_35)))) (And.intro (And.intro (And.intro @zds_35 (And.intro @und_35 @apf_35)) (And.intro @tyc_36 (And.intro @zer_36 @zds_36))) (And.intro (And.intro @und_36 (And.intro @apf_36 @tyc_38)) (And.intro @zer_38 (And.intro @tyc_39 @zer_39))))) (And.intro (And.intro (And.intro (And.intro @zds_39 (And.intro @elt_39 @apf_39)) (And.intro @tyc_40 (And.intro @zer_40 @zds_40))) (And.intro (And.intro @fld_40_0 (And.intro @fld_40_1 @fld_40_2)) (And.intro @stf_40 (And.intro @arr_40 @apf_40)))) (And.intro (And.intro (And.intro @tyc_41 (And.intro @zer_41 @zds_41)) (And.intro @fld_41_0 (And.intro @fld_41_1 @fld_41_2))) (And.intro (And.intro @stf_41 (And.intro @arr_41 @apf_41)) (And.intro @tyc_42 (And.intro @zer_42 @tyc_43)))))) (And.intro (And.intro (And.intro (And.intro (And.intro @zer_43 (And.intro @tyc_44 @zer_44)) (And.intro @tyc_45 (And.intro @zer_45 @tyc_46))) (And.intro (And.intro @zer_46 (And.intro @zds_46 @arr_46)) (And.intro @stf_46 (And.intro @apf_46 @tyc_47)))) (And.intro (And.intro (And.intro @zer_47 (And.intro @zds_47 @arr_47)) (And.intro @stf_47 (And.intro @apf_47 @tyc_48))) (And.intro (And.intro @zer_48 (And.intro @zds_48 @elt_48)) (And.intro @apf_48 (And.intro @tyc_49 @zer_49))))) (And.intro (And.intro (And.intro (And.intro @zds_49 (And.intro @arr_49 @stf_49)) (And.intro @apf_49 (And.intro @tyc_50 @zer_50))) (And.intro (And.intro @zds_50 (And.intro @fld_50_0 @fld_50_1)) (And.intro @fld_50_2 (And.intro @fld_50_3 @fld_50_4)))) (And.intro (And.intro (And.intro @stf_50 (And.intro @arr_50 @apf_50)) (And.intro @tyc_51 (And.intro @zer_51 @zds_51))) (And.intro (And.intro @fld_51_0 (And.intro @fld_51_1 @fld_51_2)) (And.intro @fld_51_3 (And.intro @fld_51_4 @stf_51))))))) (And.intro (And.intro (And.intro (And.intro (And.intro (And.intro @arr_51 @apf_51) (And.intro @tyc_52 (And.intro @zer_52 @zds_52))) (And.intro (And.intro @arr_52 (And.intro @stf_52 @apf_52)) (And.intro @tyc_53 (And.intro @zer_53 @zds_53)))) (And.intro (And.intro (And.intro @elt_53 (And.intro @apf_53 @tyc_54)) (And.intro @zer_54 (And.intro @zds_54 @fld_54_0))) (And.intro (And.intro @fld_54_1 (And.intro @fld_54_2 @fld_54_3)) (And.intro @stf_54 (And.intro @arr_54 @apf_54))))) (And.intro (And.intro (And.intro (And.intro @tyc_55 (And.intro @zer_55 @zds_55)) (And.intro @fld_55_0 (And.intro @fld_55_1 @fld_55_2))) (And.intro (And.intro @fld_55_3 (And.intro @stf_55 @arr_55)) (And.intro @apf_55 (And.intro @tyc_56 @zer_56)))) (And.intro (And.intro (And.intro @zds_56 (And.intro @fld_56_0 @fld_56_1)) (And.intro @fld_56_2 (And.intro @fld_56_3 @stf_56))) (And.intro (And.intro @arr_56 (And.intro @apf_56 @tyc_57)) (And.intro @zer_57 (And.intro @zds_57 @fld_57_0)))))) (And.intro (And.intro (And.intro (And.intro (And.intro @fld_57_1 (And.intro @fld_57_2 @fld_57_3)) (And.intro @stf_57 (And.intro @arr_57 @apf_57))) (And.intro (And.intro @tyc_59 (And.intro @zer_59 @tyc_60)) (And.intro @zer_60 (And.intro @tyc_61 @zer_61)))) (And.intro (And.intro (And.intro @zds_61 (And.intro @fld_61_0 @fld_61_1)) (And.intro @fld_61_2 (And.intro @stf_61 @arr_61))) (And.intro (And.intro @apf_61 (And.intro @tyc_62 @zer_62)) (And.intro @zds_62 (And.intro @fld_62_0 @fld_62_1))))) (And.intro (And.intro (And.intro (And.intro @fld_62_2 (And.intro @stf_62 @arr_62)) (And.intro @apf_62 (And.intro @tyc_63 @zer_63))) (And.intro (And.intro @tyc_65 (And.intro @zer_65 @tyc_66)) (And.intro @zer_66 (And.intro @tyc_67 @zer_67)))) (And.intro (And.intro (And.intro @zds_67 (And.intro @fld_67_0 @fld_67_1)) (And.intro @stf_67 (And.intro @arr_67 @apf_67))) (And.intro (And.intro @tyc_68 (And.intro @zer_68 @zds_68)) (And.intro @fld_68_0 (And.intro @fld_68_1 @stf_68))))))))) (And.intro (And.intro (And.intro (And.intro (And.intro (And.intro (And.intro (And.intro @arr_68 @apf_68) (And.intro @tyc_70 (And.intro @zer_70 @tyc_71))) (And.intro (And.intro @zer_71 (And.intro @tyc_72 @zer_72)) (And.intro @zds_72 (And.intro @fld_72_0 @fld_72_1)))) (And.intro (And.intro (And.intro @fld_72_2 (And.intro @fld_72_3 @stf_72)) (And.intro @arr_72 (And.intro @apf_72 @tyc_73))) (And.intro (And.intro @zer_73 (And.intro @zds_73 @fld_73_0)) (And.intro @fld_73_1 (And.intro @fld_73_2 @fld_73_3))))) (And.intro (And.intro (And.intro (And.intro @stf_73 (And.intro @arr_73 @apf_73)) (And.intro @tyc_74 (And.intro @zer_74 @tyc_75))) (And.intro (And.intro @zer_75 (And.intro @tyc_76 @zer_76)) (And.intro @tyc_77 (And.intro @zer_77 @tyc_78)))) (And.intro (And.intro (And.intro @zer_78 (And.intro @tyc_79 @zer_79)) (And.intro @tyc_80 (And.intro @zer_80 @zds_80))) (And.intro (And.intro @fld_80_0 (And.intro @fld_80_1 @stf_80)) (And.intro @arr_80 (And.intro @apf_80 @tyc_81)))))) (And.intro (And.intro (And.intro (And.intro (And.intro @zer_81 (And.intro @zds_81 @fld_81_0)) (And.intro @fld_81_1 (And.intro @stf_81 @arr_81))) (And.intro (And.intro @apf_81 (And.intro @tyc_83 @zer_83)) (And.intro @tyc_84 (And.intro @zer_84 @zds_84)))) (And.intro (And.intro (And.intro @fld_84_0 (And.intro @fld_84_1 @fld_84_2)) (And.intro @stf_84 (And.intro @arr_84 @apf_84))) (And.intro (And.intro @tyc_85 (And.intro @zer_85 @zds_85)) (And.intro @fld_85_0 (And.intro @fld_85_1 @fld_85_2))))) (And.intro (And.intro (And.intro (And.intro @stf_85 (And.intro @arr_85 @apf_85)) (And.intro @tyc_87 (And.intro @zer_87 @tyc_88))) (And.intro (And.intro @zer_88 (And.intro @tyc_89 @zer_89)) (And.intro @zds_89 (And.intro @elt_89 @apf_89)))) (And.intro (And.intro (And.intro @tyc_91 (And.intro @zer_91 @tyc_92)) (And.intro @zer_92 (And.intro @zds_92 @fld_92_0))) (And.intro (And.intro @fld_92_1 (And.intro @fld_92_2 @stf_92)) (And.intro @arr_92 (And.intro @apf_92 @tyc_93))))))) (And.intro (And.intro (And.intro (And.intro (And.intro (And.intro @zer_93 @zds_93) (And.intro @fld_93_0 (And.intro @fld_93_1 @fld_93_2))) (And.intro (And.intro @stf_93 (And.intro @arr_93 @apf_93)) (And.intro @tyc_95 (And.intro @zer_95 @tyc_96)))) (And.intro (And.intro (And.intro @zer_96 (And.intro @zds_96 @elt_96)) (And.intro @apf_96 (And.intro @tyc_97 @zer_97))) (And.intro (And.intro @zds_97 (And.intro @fld_97_0 @fld_97_1)) (And.intro @fld_97_2 (And.intro @stf_97 @arr_97))))) (And.intro (And.intro (And.intro (And.intro @apf_97 (And.intro @tyc_98 @zer_98)) (And.intro @zds_98 (And.intro @fld_98_0 @fld_98_1))) (And.intro (And.intro @fld_98_2 (And.intro @stf_98 @arr_98)) (And.intro @apf_98 (And.intro @tyc_99 @zer_99)))) (And.intro (And.intro (And.intro @tyc_100 (And.intro @zer_100 @tyc_101)) (And.intro @zer_101 (And.intro @tyc_102 @zer_102))) (And.intro (And.intro @tyc_103 (And.intro @zer_103 @tyc_104)) (And.intro @zer_104 (And.intro @tyc_105 @zer_105)))))) (And.intro (And.intro (And.intro (And.intro (And.intro @tyc_106 (And.intro @zer_106 @tyc_107)) (And.intro @zer_107 (And.intro @tyc_108 @zer_108))) (And.intro (And.intro @zds_108 (And.intro @fld_108_0 @stf_108)) (And.intro @arr_108 (And.intro @apf_108 @tyc_109)))) (And.intro (And.intro (And.intro @zer_109 (And.intro @zds_109 @fld_109_0)) (And.intro @stf_109 (And.intro @arr_109 @apf_109))) (And.intro (And.intro @tyc_111 (And.intro @zer_111 @tyc_112)) (And.intro @zer_112 (And.intro @tyc_113 @zer_113))))) (And.intro (And.intro (And.intro (And.intro @tyc_114 (And.intro @zer_114 @tyc_115)) (And.intro @zer_115 (And.intro @tyc_116 @zer_116))) (And.intro (And.intro @tyc_117 (And.intro @zer_117 @zds_117)) (And.intro @fld_117_0 (And.intro @fld_117_1 @stf_117)))) (And.intro (And.intro (And.intro @arr_117 (And.intro @apf_117 @tyc_118)) (And.intro @zer_118 (And.intro @zds_118 @fld_118_0))) (And.intro (And.intro @fld_118_1 (And.intro @stf_118 @arr_118)) (And.intro @apf_118 (And.intro @tyc_120 @zer_120)))))))) (And.intro (And.intro (And.intro (And.intro (And.intro (And.intro (And.intro @tyc_121 @zer_121) (And.intro @tyc_122 (And.intro @zer_122 @zds_122))) (And.intro (And.intro @fld_122_0 (And.intro @fld_122_1 @stf_122)) (And.intro @arr_122 (And.intro @apf_122 @tyc_123)))) (And.intro (And.intro (And.intro @zer_123 (And.intro @tyc_124 @zer_124)) (And.intro @tyc_125 (And.intro @zer_125 @tyc_126))) (And.intro (And.intro @zer_126 (And.intro @tyc_127 @zer_127)) (And.intro @zds_127 (And.intro @arr_127 @stf_127))))) (And.intro (And.intro (And.intro (And.intro @apf_127 (And.intro @tyc_128 @zer_128)) (And.intro @tyc_129 (And.intro @zer_129 @tyc_130))) (And.intro (And.intro @zer_130 (And.intro @tyc_131 @zer_131)) (And.intro @zds_131 (And.intro @mpt_131 @apf_131)))) (And.intro (And.intro (And.intro @tyc_132 (And.intro @zer_132 @zds_132)) (And.intro @fld_132_0 (And.intro @fld_132_1 @stf_132))) (And.intro (And.intro @arr_132 (And.intro @apf_132 @tyc_133)) (And.intro @zer_133 (And.intro @zds_133 @fld_133_0)))))) (And.intro (And.intro (And.intro (And.intro (And.intro @fld_133_1 (And.intro @stf_133 @arr_133)) (And.intro @apf_133 (And.intro @tyc_134 @zer_134))) (And.intro (And.intro @tyc_136 (And.intro @zer_136 @tyc_137)) (And.intro @zer_137 (And.intro @tyc_138 @zer_138)))) (And.intro (And.intro (And.intro @tyc_139 (And.intro @zer_139 @tyc_140)) (And.intro @zer_140 (And.intro @tyc_141 @zer_141))) (And.intro (And.intro @tyc_142 (And.intro @zer_142 @tyc_143)) (And.intro @zer_143 (And.intro @tyc_144 @zer_144))))) (And.intro (And.intro (And.intro (And.intro @tyc_145 (And.intro @zer_145 @tyc_146)) (And.intro @zer_146 (And.intro @tyc_147 @zer_147))) (And.intro (And.intro @tyc_148 (And.intro @zer_148 @tyc_149)) (And.intro @zer_149 (And.intro @tyc_150 @zer_150)))) (And.intro (And.intro (And.intro @tyc_151 (And.intro @zer_151 @tyc_152)) (And.intro @zer_152 (And.intro @zds_152 @fld_152_0))) (And.intro (And.intro @fld_152_1 (And.intro @fld_152_2 @fld_152_3)) (And.intro @stf_152 (And.intro @arr_152 @apf_152))))))) (And.intro (And.intro (And.intro (And.intro (And.intro (And.intro @tyc_153 @zer_153) (And.intro @zds_153 (And.intro @fld_153_0 @fld_153_1))) (And.intro (And.intro @fld_153_2 (And.intro @fld_153_3 @stf_153)) (And.intro @arr_153 (And.intro @apf_153 @tyc_154)))) (And.intro (And.intro (And.intro @zer_154 (And.intro @zds_154 @arr_154)) (And.intro @stf_154 (And.intro @tyc_155 @zer_155))) (And.intro (And.intro @zds_155 (And.intro @stf_155 @arr_155)) (And.intro @tyc_156 (And.intro @zer_156 @zds_156))))) (And.intro (And.intro (And.intro (And.intro @stf_156 (And.intro @arr_156 @tyc_157)) (And.intro @zer_157 (And.intro @zds_157 @und_157))) (And.intro (And.intro @apf_157 (And.intro @tyc_158 @zer_158)) (And.intro @zds_158 (And.intro @und_158 @apf_158)))) (And.intro (And.intro (And.intro @tyc_159 (And.intro @zer_159 @zds_159)) (And.intro @und_159 (And.intro @apf_159 @tyc_160))) (And.intro (And.intro @zer_160 (And.intro @tyc_161 @zer_161)) (And.intro @zds_161 (And.intro @apf_161 @tyc_162)))))) (And.intro (And.intro (And.intro (And.intro (And.intro @zer_162 (And.intro @zds_162 @und_162)) (And.intro @apf_162 (And.intro @tyc_163 @zer_163))) (And.intro (And.intro @zds_163 (And.intro @und_163 @apf_163)) (And.intro @tyc_164 (And.intro @zer_164 @zds_164)))) (And.intro (And.intro (And.intro @fld_164_0 (And.intro @fld_164_1 @fld_164_2)) (And.intro @fld_164_3 (And.intro @fld_164_4 @fld_164_5))) (And.intro (And.intro @fld_164_6 (And.intro @fld_164_7 @fld_164_8)) (And.intro @fld_164_9 (And.intro @fld_164_10 @stf_164))))) (And.intro (And.intro (And.intro (And.intro @arr_164 (And.intro @apf_164 @tyc_165)) (And.intro @zer_165 (And.intro @zds_165 @fld_165_0))) (And.intro (And.intro @fld_165_1 (And.intro @fld_165_2 @fld_165_3)) (And.intro @fld_165_4 (And.intro @fld_165_5 @fld_165_6)))) (And.intro (And.intro (And.intro @fld_165_7 (And.intro @fld_165_8 @fld_165_9)) (And.intro @fld_165_10 (And.intro @stf_165 @arr_165))) (And.intro (And.intro @apf_165 (And.intro @tyc_166 @zer_166)) (And.intro @tyc_168 (And.intro @zer_168 @zro_28))))))))))
theorem fA : type_of% fA0 := fA0
end Go.Proofs.Ytnalabgckndhoaa.Ab
