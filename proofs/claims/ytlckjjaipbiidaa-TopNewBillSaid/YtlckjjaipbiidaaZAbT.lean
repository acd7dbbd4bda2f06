/- Facts of the seat: its types and its functions, by number. -/
import Derived.Test.YtlckjjaipbiidaaZAbV
import Derived.Test.YtlckjjaipbiidaaProg
import Derived.KernelRfl
namespace Go.Proofs.Ytlckjjaipbiidaa.Ab
open Go Go.RowKit
set_option linter.defProp false
theorem tyc_1 : tyc Try.prog 1 = some (false, 1) := by kernel_rfl
theorem zer_1 : zer Try.prog 1 = some [Go.Value.nilFunc] := by kernel_rfl
theorem tyc_2 : tyc Try.prog 2 = some (false, 1) := by kernel_rfl
theorem zer_2 : zer Try.prog 2 = some [Go.Value.int Go.IntKind.i64 0] := by kernel_rfl
theorem zds_2 : zds Try.prog 2 = some [.v (Go.Value.int Go.IntKind.i64 0)] := by kernel_rfl
theorem und_2 : Try.prog.underlying 2 = some (.int .i64) := by kernel_rfl
theorem apf_2 : apf Try.prog 2 = some (1, 8) := by kernel_rfl
theorem tyc_3 : tyc Try.prog 3 = some (false, 1) := by kernel_rfl
theorem zer_3 : zer Try.prog 3 = some [Go.Value.int Go.IntKind.i64 0] := by kernel_rfl
theorem zds_3 : zds Try.prog 3 = some [.v (Go.Value.int Go.IntKind.i64 0)] := by kernel_rfl
theorem und_3 : Try.prog.underlying 3 = some (.int .i64) := by kernel_rfl
theorem apf_3 : apf Try.prog 3 = some (1, 8) := by kernel_rfl
theorem tyc_4 : tyc Try.prog 4 = some (false, 1) := by kernel_rfl
theorem zer_4 : zer Try.prog 4 = some [Go.Value.bool false] := by kernel_rfl
theorem zds_4 : zds Try.prog 4 = some [.v (Go.Value.bool false)] := by kernel_rfl
theorem und_4 : Try.prog.underlying 4 = some .bool := by kernel_rfl
theorem apf_4 : apf Try.prog 4 = some (1, 1) := by kernel_rfl
theorem tyc_5 : tyc Try.prog 5 = some (false, 1) := by kernel_rfl
theorem zer_5 : zer Try.prog 5 = some [Go.Value.int Go.IntKind.u8 0] := by kernel_rfl
theorem zds_5 : zds Try.prog 5 = some [.v (Go.Value.int Go.IntKind.u8 0)] := by kernel_rfl
theorem und_5 : Try.prog.underlying 5 = some (.int .u8) := by kernel_rfl
theorem apf_5 : apf Try.prog 5 = some (1, 1) := by kernel_rfl
theorem tyc_6 : tyc Try.prog 6 = some (false, 1) := by kernel_rfl
theorem zer_6 : zer Try.prog 6 = some [Go.Value.int Go.IntKind.u8 0] := by kernel_rfl
theorem zds_6 : zds Try.prog 6 = some [.v (Go.Value.int Go.IntKind.u8 0)] := by kernel_rfl
theorem und_6 : Try.prog.underlying 6 = some (.int .u8) := by kernel_rfl
theorem apf_6 : apf Try.prog 6 = some (1, 1) := by kernel_rfl
theorem tyc_7 : tyc Try.prog 7 = some (true, 4) := by kernel_rfl
theorem zer_7 : zer Try.prog 7 = some [Go.Value.int Go.IntKind.i64 0, Go.Value.int Go.IntKind.i64 0, Go.Value.bool false, Go.Value.int Go.IntKind.u8 0] := by kernel_rfl
theorem zds_7 : zds Try.prog 7 = some [.v (Go.Value.int Go.IntKind.i64 0), .v (Go.Value.int Go.IntKind.i64 0), .v (Go.Value.bool false), .v (Go.Value.int Go.IntKind.u8 0)] := by kernel_rfl
theorem fld_7_0 : fld Try.prog 7 0 = some (0, 2) := by kernel_rfl
theorem fld_7_1 : fld Try.prog 7 1 = some (1, 3) := by kernel_rfl
theorem fld_7_2 : fld Try.prog 7 2 = some (2, 4) := by kernel_rfl
theorem fld_7_3 : fld Try.prog 7 3 = some (3, 6) := by kernel_rfl
theorem stf_7 : stf Try.prog 7 = some [(0, 1), (1, 1), (2, 1), (3, 1)] := by kernel_rfl
theorem arr_7 : arr Try.prog 7 = none := by kernel_rfl
theorem apf_7 : apf Try.prog 7 = some (4, 24) := by kernel_rfl
theorem tyc_8 : tyc Try.prog 8 = some (true, 4) := by kernel_rfl
theorem zer_8 : zer Try.prog 8 = some [Go.Value.int Go.IntKind.i64 0, Go.Value.int Go.IntKind.i64 0, Go.Value.bool false, Go.Value.int Go.IntKind.u8 0] := by kernel_rfl
theorem zds_8 : zds Try.prog 8 = some [.v (Go.Value.int Go.IntKind.i64 0), .v (Go.Value.int Go.IntKind.i64 0), .v (Go.Value.bool false), .v (Go.Value.int Go.IntKind.u8 0)] := by kernel_rfl
theorem fld_8_0 : fld Try.prog 8 0 = some (0, 2) := by kernel_rfl
theorem fld_8_1 : fld Try.prog 8 1 = some (1, 3) := by kernel_rfl
theorem fld_8_2 : fld Try.prog 8 2 = some (2, 4) := by kernel_rfl
theorem fld_8_3 : fld Try.prog 8 3 = some (3, 6) := by kernel_rfl
theorem stf_8 : stf Try.prog 8 = some [(0, 1), (1, 1), (2, 1), (3, 1)] := by kernel_rfl
theorem arr_8 : arr Try.prog 8 = none := by kernel_rfl
theorem apf_8 : apf Try.prog 8 = some (4, 24) := by kernel_rfl
theorem tyc_9 : tyc Try.prog 9 = some (false, 1) := by kernel_rfl
theorem zer_9 : zer Try.prog 9 = some [Go.Value.string { data := #[] }] := by kernel_rfl
theorem zds_9 : zds Try.prog 9 = some [.v (Go.Value.string { data := #[] })] := by kernel_rfl
theorem apf_9 : apf Try.prog 9 = some (1, 16) := by kernel_rfl
theorem tyc_10 : tyc Try.prog 10 = some (false, 1) := by kernel_rfl
theorem zer_10 : zer Try.prog 10 = some [Go.Value.string { data := #[] }] := by kernel_rfl
theorem zds_10 : zds Try.prog 10 = some [.v (Go.Value.string { data := #[] })] := by kernel_rfl
theorem apf_10 : apf Try.prog 10 = some (1, 16) := by kernel_rfl
theorem tyc_11 : tyc Try.prog 11 = some (false, 1) := by kernel_rfl
theorem zer_11 : zer Try.prog 11 = some [Go.Value.string { data := #[] }] := by kernel_rfl
theorem zds_11 : zds Try.prog 11 = some [.v (Go.Value.string { data := #[] })] := by kernel_rfl
theorem apf_11 : apf Try.prog 11 = some (1, 16) := by kernel_rfl
theorem tyc_12 : tyc Try.prog 12 = some (false, 1) := by kernel_rfl
theorem zer_12 : zer Try.prog 12 = some [Go.Value.int Go.IntKind.u64 0] := by kernel_rfl
theorem zds_12 : zds Try.prog 12 = some [.v (Go.Value.int Go.IntKind.u64 0)] := by kernel_rfl
theorem und_12 : Try.prog.underlying 12 = some (.int .u64) := by kernel_rfl
theorem apf_12 : apf Try.prog 12 = some (1, 8) := by kernel_rfl
theorem tyc_13 : tyc Try.prog 13 = some (true, 2) := by kernel_rfl
theorem zer_13 : zer Try.prog 13 = some [Go.Value.string { data := #[] }, Go.Value.int Go.IntKind.u64 0] := by kernel_rfl
theorem zds_13 : zds Try.prog 13 = some [.v (Go.Value.string { data := #[] }), .v (Go.Value.int Go.IntKind.u64 0)] := by kernel_rfl
theorem fld_13_0 : fld Try.prog 13 0 = some (0, 9) := by kernel_rfl
theorem fld_13_1 : fld Try.prog 13 1 = some (1, 12) := by kernel_rfl
theorem stf_13 : stf Try.prog 13 = some [(0, 1), (1, 1)] := by kernel_rfl
theorem arr_13 : arr Try.prog 13 = none := by kernel_rfl
theorem apf_13 : apf Try.prog 13 = some (2, 24) := by kernel_rfl
theorem tyc_14 : tyc Try.prog 14 = some (true, 2) := by kernel_rfl
theorem zer_14 : zer Try.prog 14 = some [Go.Value.string { data := #[] }, Go.Value.int Go.IntKind.u64 0] := by kernel_rfl
theorem zds_14 : zds Try.prog 14 = some [.v (Go.Value.string { data := #[] }), .v (Go.Value.int Go.IntKind.u64 0)] := by kernel_rfl
theorem fld_14_0 : fld Try.prog 14 0 = some (0, 9) := by kernel_rfl
theorem fld_14_1 : fld Try.prog 14 1 = some (1, 12) := by kernel_rfl
theorem stf_14 : stf Try.prog 14 = some [(0, 1), (1, 1)] := by kernel_rfl
theorem arr_14 : arr Try.prog 14 = none := by kernel_rfl
theorem apf_14 : apf Try.prog 14 = some (2, 24) := by kernel_rfl
theorem tyc_15 : tyc Try.prog 15 = some (false, 1) := by kernel_rfl
theorem zer_15 : zer Try.prog 15 = some [Go.Value.pointer none] := by kernel_rfl
theorem zds_15 : zds Try.prog 15 = some [.v (Go.Value.pointer none)] := by kernel_rfl
theorem apf_15 : apf Try.prog 15 = some (1, 8) := by kernel_rfl
theorem tyc_16 : tyc Try.prog 16 = some (false, 1) := by kernel_rfl
theorem zer_16 : zer Try.prog 16 = some [Go.Value.pointer none] := by kernel_rfl
theorem zds_16 : zds Try.prog 16 = some [.v (Go.Value.pointer none)] := by kernel_rfl
theorem apf_16 : apf Try.prog 16 = some (1, 8) := by kernel_rfl
theorem tyc_17 : tyc Try.prog 17 = some (false, 1) := by kernel_rfl
theorem zer_17 : zer Try.prog 17 = some [Go.Value.pointer none] := by kernel_rfl
theorem zds_17 : zds Try.prog 17 = some [.v (Go.Value.pointer none)] := by kernel_rfl
theorem apf_17 : apf Try.prog 17 = some (1, 8) := by kernel_rfl
theorem tyc_18 : tyc Try.prog 18 = some (true, 1) := by kernel_rfl
theorem zer_18 : zer Try.prog 18 = some [Go.Value.pointer none] := by kernel_rfl
theorem zds_18 : zds Try.prog 18 = some [.v (Go.Value.pointer none)] := by kernel_rfl
theorem fld_18_0 : fld Try.prog 18 0 = some (0, 17) := by kernel_rfl
theorem stf_18 : stf Try.prog 18 = some [(0, 1)] := by kernel_rfl
theorem arr_18 : arr Try.prog 18 = none := by kernel_rfl
theorem apf_18 : apf Try.prog 18 = some (1, 8) := by kernel_rfl
theorem tyc_19 : tyc Try.prog 19 = some (true, 1) := by kernel_rfl
theorem zer_19 : zer Try.prog 19 = some [Go.Value.pointer none] := by kernel_rfl
theorem zds_19 : zds Try.prog 19 = some [.v (Go.Value.pointer none)] := by kernel_rfl
theorem fld_19_0 : fld Try.prog 19 0 = some (0, 17) := by kernel_rfl
theorem stf_19 : stf Try.prog 19 = some [(0, 1)] := by kernel_rfl
theorem arr_19 : arr Try.prog 19 = none := by kernel_rfl
theorem apf_19 : apf Try.prog 19 = some (1, 8) := by kernel_rfl
theorem tyc_21 : tyc Try.prog 21 = some (false, 1) := by kernel_rfl
theorem zer_21 : zer Try.prog 21 = some [Go.Value.int Go.IntKind.i32 0] := by kernel_rfl
theorem zds_21 : zds Try.prog 21 = some [.v (Go.Value.int Go.IntKind.i32 0)] := by kernel_rfl
theorem und_21 : Try.prog.underlying 21 = some (.int .i32) := by kernel_rfl
theorem apf_21 : apf Try.prog 21 = some (1, 4) := by kernel_rfl
theorem tyc_22 : tyc Try.prog 22 = some (false, 1) := by kernel_rfl
theorem zer_22 : zer Try.prog 22 = some [Go.Value.slice none 0 0] := by kernel_rfl
theorem zds_22 : zds Try.prog 22 = some [.sl 1 []] := by kernel_rfl
theorem elt_22 : elt Try.prog 22 = some (5, 1) := by kernel_rfl
theorem apf_22 : apf Try.prog 22 = some (1, 24) := by kernel_rfl
theorem tyc_23 : tyc Try.prog 23 = some (false, 1) := by kernel_rfl
theorem zer_23 : zer Try.prog 23 = some [Go.Value.slice none 0 0] := by kernel_rfl
theorem zds_23 : zds Try.prog 23 = some [.sl 2 []] := by kernel_rfl
theorem elt_23 : elt Try.prog 23 = some (35, 2) := by kernel_rfl
theorem apf_23 : apf Try.prog 23 = some (1, 24) := by kernel_rfl
theorem tyc_24 : tyc Try.prog 24 = some (true, 3) := by kernel_rfl
theorem zer_24 : zer Try.prog 24 = some [Go.Value.int Go.IntKind.u8 0, Go.Value.int Go.IntKind.u8 0, Go.Value.int Go.IntKind.u8 0] := by kernel_rfl
theorem zds_24 : zds Try.prog 24 = some [.v (Go.Value.int Go.IntKind.u8 0), .v (Go.Value.int Go.IntKind.u8 0), .v (Go.Value.int Go.IntKind.u8 0)] := by kernel_rfl
theorem arr_24 : arr Try.prog 24 = some (3, 5, 1) := by kernel_rfl
theorem stf_24 : stf Try.prog 24 = none := by kernel_rfl
theorem apf_24 : apf Try.prog 24 = some (3, 3) := by kernel_rfl
theorem tyc_25 : tyc Try.prog 25 = some (false, 1) := by kernel_rfl
theorem zer_25 : zer Try.prog 25 = some [Go.Value.slice none 0 0] := by kernel_rfl
theorem zds_25 : zds Try.prog 25 = some [.sl 1 []] := by kernel_rfl
theorem elt_25 : elt Try.prog 25 = some (3, 1) := by kernel_rfl
theorem apf_25 : apf Try.prog 25 = some (1, 24) := by kernel_rfl
theorem tyc_26 : tyc Try.prog 26 = some (false, 1) := by kernel_rfl
theorem zer_26 : zer Try.prog 26 = some [Go.Value.slice none 0 0] := by kernel_rfl
theorem zds_26 : zds Try.prog 26 = some [.sl 2 []] := by kernel_rfl
theorem elt_26 : elt Try.prog 26 = some (94, 2) := by kernel_rfl
theorem apf_26 : apf Try.prog 26 = some (1, 24) := by kernel_rfl
theorem tyc_27 : tyc Try.prog 27 = some (true, 3) := by kernel_rfl
theorem zer_27 : zer Try.prog 27 = some [Go.Value.slice none 0 0, Go.Value.int Go.IntKind.i64 0, Go.Value.slice none 0 0] := by kernel_rfl
theorem zds_27 : zds Try.prog 27 = some [.v (Go.Value.slice none 0 0), .v (Go.Value.int Go.IntKind.i64 0), .v (Go.Value.slice none 0 0)] := by kernel_rfl
theorem fld_27_0 : fld Try.prog 27 0 = some (0, 25) := by kernel_rfl
theorem fld_27_1 : fld Try.prog 27 1 = some (1, 3) := by kernel_rfl
theorem fld_27_2 : fld Try.prog 27 2 = some (2, 26) := by kernel_rfl
theorem stf_27 : stf Try.prog 27 = some [(0, 1), (1, 1), (2, 1)] := by kernel_rfl
theorem arr_27 : arr Try.prog 27 = none := by kernel_rfl
theorem apf_27 : apf Try.prog 27 = some (3, 56) := by kernel_rfl
theorem tyc_28 : tyc Try.prog 28 = some (true, 3) := by kernel_rfl
theorem zer_28 : zer Try.prog 28 = some [Go.Value.slice none 0 0, Go.Value.int Go.IntKind.i64 0, Go.Value.slice none 0 0] := by kernel_rfl
theorem zds_28 : zds Try.prog 28 = some [.v (Go.Value.slice none 0 0), .v (Go.Value.int Go.IntKind.i64 0), .v (Go.Value.slice none 0 0)] := by kernel_rfl
theorem fld_28_0 : fld Try.prog 28 0 = some (0, 25) := by kernel_rfl
theorem fld_28_1 : fld Try.prog 28 1 = some (1, 3) := by kernel_rfl
theorem fld_28_2 : fld Try.prog 28 2 = some (2, 26) := by kernel_rfl
theorem stf_28 : stf Try.prog 28 = some [(0, 1), (1, 1), (2, 1)] := by kernel_rfl
theorem arr_28 : arr Try.prog 28 = none := by kernel_rfl
theorem apf_28 : apf Try.prog 28 = some (3, 56) := by kernel_rfl
theorem tyc_29 : tyc Try.prog 29 = some (false, 1) := by kernel_rfl
theorem zer_29 : zer Try.prog 29 = some [Go.Value.slice none 0 0] := by kernel_rfl
theorem zds_29 : zds Try.prog 29 = some [.sl 4 []] := by kernel_rfl
theorem elt_29 : elt Try.prog 29 = some (34, 4) := by kernel_rfl
theorem apf_29 : apf Try.prog 29 = some (1, 24) := by kernel_rfl
theorem tyc_30 : tyc Try.prog 30 = some (true, 2) := by kernel_rfl
theorem zer_30 : zer Try.prog 30 = some [Go.Value.int Go.IntKind.i64 0, Go.Value.int Go.IntKind.i64 0] := by kernel_rfl
theorem zds_30 : zds Try.prog 30 = some [.v (Go.Value.int Go.IntKind.i64 0), .v (Go.Value.int Go.IntKind.i64 0)] := by kernel_rfl
theorem fld_30_0 : fld Try.prog 30 0 = some (0, 3) := by kernel_rfl
theorem fld_30_1 : fld Try.prog 30 1 = some (1, 3) := by kernel_rfl
theorem stf_30 : stf Try.prog 30 = some [(0, 1), (1, 1)] := by kernel_rfl
theorem arr_30 : arr Try.prog 30 = none := by kernel_rfl
theorem apf_30 : apf Try.prog 30 = some (2, 16) := by kernel_rfl
theorem tyc_31 : tyc Try.prog 31 = some (true, 2) := by kernel_rfl
theorem zer_31 : zer Try.prog 31 = some [Go.Value.int Go.IntKind.i64 0, Go.Value.int Go.IntKind.i64 0] := by kernel_rfl
theorem zds_31 : zds Try.prog 31 = some [.v (Go.Value.int Go.IntKind.i64 0), .v (Go.Value.int Go.IntKind.i64 0)] := by kernel_rfl
theorem fld_31_0 : fld Try.prog 31 0 = some (0, 3) := by kernel_rfl
theorem fld_31_1 : fld Try.prog 31 1 = some (1, 3) := by kernel_rfl
theorem stf_31 : stf Try.prog 31 = some [(0, 1), (1, 1)] := by kernel_rfl
theorem arr_31 : arr Try.prog 31 = none := by kernel_rfl
theorem apf_31 : apf Try.prog 31 = some (2, 16) := by kernel_rfl
theorem tyc_32 : tyc Try.prog 32 = some (false, 1) := by kernel_rfl
theorem zer_32 : zer Try.prog 32 = some [Go.Value.nilFunc] := by kernel_rfl
theorem tyc_33 : tyc Try.prog 33 = some (true, 4) := by kernel_rfl
theorem zer_33 : zer Try.prog 33 = some [Go.Value.int Go.IntKind.i64 0, Go.Value.int Go.IntKind.i64 0, Go.Value.int Go.IntKind.i64 0, Go.Value.int Go.IntKind.i64 0] := by kernel_rfl
theorem zds_33 : zds Try.prog 33 = some [.v (Go.Value.int Go.IntKind.i64 0), .v (Go.Value.int Go.IntKind.i64 0), .v (Go.Value.int Go.IntKind.i64 0), .v (Go.Value.int Go.IntKind.i64 0)] := by kernel_rfl
theorem fld_33_0 : fld Try.prog 33 0 = some (0, 31) := by kernel_rfl
theorem fld_33_1 : fld Try.prog 33 1 = some (2, 3) := by kernel_rfl
theorem fld_33_2 : fld Try.prog 33 2 = some (3, 3) := by kernel_rfl
theorem stf_33 : stf Try.prog 33 = some [(0, 2), (2, 1), (3, 1)] := by kernel_rfl
theorem arr_33 : arr Try.prog 33 = none := by kernel_rfl
theorem apf_33 : apf Try.prog 33 = some (4, 32) := by kernel_rfl
theorem tyc_34 : tyc Try.prog 34 = some (true, 4) := by kernel_rfl
theorem zer_34 : zer Try.prog 34 = some [Go.Value.int Go.IntKind.i64 0, Go.Value.int Go.IntKind.i64 0, Go.Value.int Go.IntKind.i64 0, Go.Value.int Go.IntKind.i64 0] := by kernel_rfl
theorem zds_34 : zds Try.prog 34 = some [.v (Go.Value.int Go.IntKind.i64 0), .v (Go.Value.int Go.IntKind.i64 0), .v (Go.Value.int Go.IntKind.i64 0), .v (Go.Value.int Go.IntKind.i64 0)] := by kernel_rfl
theorem fld_34_0 : fld Try.prog 34 0 = some (0, 31) := by kernel_rfl
theorem fld_34_1 : fld Try.prog 34 1 = some (2, 3) := by kernel_rfl
theorem fld_34_2 : fld Try.prog 34 2 = some (3, 3) := by kernel_rfl
theorem stf_34 : stf Try.prog 34 = some [(0, 2), (2, 1), (3, 1)] := by kernel_rfl
theorem arr_34 : arr Try.prog 34 = none := by kernel_rfl
theorem apf_34 : apf Try.prog 34 = some (4, 32) := by kernel_rfl
theorem tyc_35 : tyc Try.prog 35 = some (true, 2) := by kernel_rfl
theorem zer_35 : zer Try.prog 35 = some [Go.Value.int Go.IntKind.u8 0, Go.Value.int Go.IntKind.u8 0] := by kernel_rfl
theorem zds_35 : zds Try.prog 35 = some [.v (Go.Value.int Go.IntKind.u8 0), .v (Go.Value.int Go.IntKind.u8 0)] := by kernel_rfl
theorem arr_35 : arr Try.prog 35 = some (2, 5, 1) := by kernel_rfl
theorem stf_35 : stf Try.prog 35 = none := by kernel_rfl
theorem apf_35 : apf Try.prog 35 = some (2, 2) := by kernel_rfl
theorem tyc_36 : tyc Try.prog 36 = some (false, 1) := by kernel_rfl
theorem zer_36 : zer Try.prog 36 = some [Go.Value.int Go.IntKind.i64 0] := by kernel_rfl
theorem zds_36 : zds Try.prog 36 = some [.v (Go.Value.int Go.IntKind.i64 0)] := by kernel_rfl
theorem und_36 : Try.prog.underlying 36 = some (.int .i64) := by kernel_rfl
theorem apf_36 : apf Try.prog 36 = some (1, 8) := by kernel_rfl
theorem tyc_38 : tyc Try.prog 38 = some (false, 1) := by kernel_rfl
theorem zer_38 : zer Try.prog 38 = some [Go.Value.nilFunc] := by kernel_rfl
theorem tyc_40 : tyc Try.prog 40 = some (false, 1) := by kernel_rfl
theorem zer_40 : zer Try.prog 40 = some [Go.Value.nilFunc] := by kernel_rfl
theorem tyc_41 : tyc Try.prog 41 = some (false, 1) := by kernel_rfl
theorem zer_41 : zer Try.prog 41 = some [Go.Value.slice none 0 0] := by kernel_rfl
theorem zds_41 : zds Try.prog 41 = some [.sl 2 []] := by kernel_rfl
theorem elt_41 : elt Try.prog 41 = some (31, 2) := by kernel_rfl
theorem apf_41 : apf Try.prog 41 = some (1, 24) := by kernel_rfl
theorem tyc_43 : tyc Try.prog 43 = some (false, 1) := by kernel_rfl
theorem zer_43 : zer Try.prog 43 = some [Go.Value.nilFunc] := by kernel_rfl
theorem tyc_44 : tyc Try.prog 44 = some (true, 3) := by kernel_rfl
theorem zer_44 : zer Try.prog 44 = some [Go.Value.int Go.IntKind.i64 0, Go.Value.int Go.IntKind.i64 0, Go.Value.int Go.IntKind.i64 0] := by kernel_rfl
theorem zds_44 : zds Try.prog 44 = some [.v (Go.Value.int Go.IntKind.i64 0), .v (Go.Value.int Go.IntKind.i64 0), .v (Go.Value.int Go.IntKind.i64 0)] := by kernel_rfl
theorem fld_44_0 : fld Try.prog 44 0 = some (0, 3) := by kernel_rfl
theorem fld_44_1 : fld Try.prog 44 1 = some (1, 3) := by kernel_rfl
theorem fld_44_2 : fld Try.prog 44 2 = some (2, 3) := by kernel_rfl
theorem stf_44 : stf Try.prog 44 = some [(0, 1), (1, 1), (2, 1)] := by kernel_rfl
theorem arr_44 : arr Try.prog 44 = none := by kernel_rfl
theorem apf_44 : apf Try.prog 44 = some (3, 24) := by kernel_rfl
theorem tyc_45 : tyc Try.prog 45 = some (true, 3) := by kernel_rfl
theorem zer_45 : zer Try.prog 45 = some [Go.Value.int Go.IntKind.i64 0, Go.Value.int Go.IntKind.i64 0, Go.Value.int Go.IntKind.i64 0] := by kernel_rfl
theorem zds_45 : zds Try.prog 45 = some [.v (Go.Value.int Go.IntKind.i64 0), .v (Go.Value.int Go.IntKind.i64 0), .v (Go.Value.int Go.IntKind.i64 0)] := by kernel_rfl
theorem fld_45_0 : fld Try.prog 45 0 = some (0, 3) := by kernel_rfl
theorem fld_45_1 : fld Try.prog 45 1 = some (1, 3) := by kernel_rfl
theorem fld_45_2 : fld Try.prog 45 2 = some (2, 3) := by kernel_rfl
theorem stf_45 : stf Try.prog 45 = some [(0, 1), (1, 1), (2, 1)] := by kernel_rfl
theorem arr_45 : arr Try.prog 45 = none := by kernel_rfl
theorem apf_45 : apf Try.prog 45 = some (3, 24) := by kernel_rfl
theorem tyc_46 : tyc Try.prog 46 = some (false, 1) := by kernel_rfl
theorem zer_46 : zer Try.prog 46 = some [Go.Value.slice none 0 0] := by kernel_rfl
theorem zds_46 : zds Try.prog 46 = some [.sl 3 []] := by kernel_rfl
theorem elt_46 : elt Try.prog 46 = some (45, 3) := by kernel_rfl
theorem apf_46 : apf Try.prog 46 = some (1, 24) := by kernel_rfl
theorem tyc_47 : tyc Try.prog 47 = some (true, 2) := by kernel_rfl
theorem zer_47 : zer Try.prog 47 = some [Go.Value.slice none 0 0, Go.Value.int Go.IntKind.i64 0] := by kernel_rfl
theorem zds_47 : zds Try.prog 47 = some [.v (Go.Value.slice none 0 0), .v (Go.Value.int Go.IntKind.i64 0)] := by kernel_rfl
theorem fld_47_0 : fld Try.prog 47 0 = some (0, 46) := by kernel_rfl
theorem fld_47_1 : fld Try.prog 47 1 = some (1, 3) := by kernel_rfl
theorem stf_47 : stf Try.prog 47 = some [(0, 1), (1, 1)] := by kernel_rfl
theorem arr_47 : arr Try.prog 47 = none := by kernel_rfl
theorem apf_47 : apf Try.prog 47 = some (2, 32) := by kernel_rfl
theorem tyc_48 : tyc Try.prog 48 = some (true, 2) := by kernel_rfl
theorem zer_48 : zer Try.prog 48 = some [Go.Value.slice none 0 0, Go.Value.int Go.IntKind.i64 0] := by kernel_rfl
theorem zds_48 : zds Try.prog 48 = some [.v (Go.Value.slice none 0 0), .v (Go.Value.int Go.IntKind.i64 0)] := by kernel_rfl
theorem fld_48_0 : fld Try.prog 48 0 = some (0, 46) := by kernel_rfl
theorem fld_48_1 : fld Try.prog 48 1 = some (1, 3) := by kernel_rfl
theorem stf_48 : stf Try.prog 48 = some [(0, 1), (1, 1)] := by kernel_rfl
theorem arr_48 : arr Try.prog 48 = none := by kernel_rfl
theorem apf_48 : apf Try.prog 48 = some (2, 32) := by kernel_rfl
theorem tyc_49 : tyc Try.prog 49 = some (false, 1) := by kernel_rfl
theorem zer_49 : zer Try.prog 49 = some [Go.Value.nilFunc] := by kernel_rfl
theorem tyc_50 : tyc Try.prog 50 = some (false, 1) := by kernel_rfl
theorem zer_50 : zer Try.prog 50 = some [Go.Value.nilFunc] := by kernel_rfl
theorem tyc_51 : tyc Try.prog 51 = some (false, 1) := by kernel_rfl
theorem zer_51 : zer Try.prog 51 = some [Go.Value.nilFunc] := by kernel_rfl
theorem tyc_52 : tyc Try.prog 52 = some (false, 1) := by kernel_rfl
theorem zer_52 : zer Try.prog 52 = some [Go.Value.nilFunc] := by kernel_rfl
theorem tyc_53 : tyc Try.prog 53 = some (true, 4) := by kernel_rfl
theorem zer_53 : zer Try.prog 53 = some [Go.Value.int Go.IntKind.i64 0, Go.Value.int Go.IntKind.i64 0, Go.Value.int Go.IntKind.i64 0, Go.Value.int Go.IntKind.i64 0] := by kernel_rfl
theorem zds_53 : zds Try.prog 53 = some [.v (Go.Value.int Go.IntKind.i64 0), .v (Go.Value.int Go.IntKind.i64 0), .v (Go.Value.int Go.IntKind.i64 0), .v (Go.Value.int Go.IntKind.i64 0)] := by kernel_rfl
theorem arr_53 : arr Try.prog 53 = some (4, 3, 1) := by kernel_rfl
theorem stf_53 : stf Try.prog 53 = none := by kernel_rfl
theorem apf_53 : apf Try.prog 53 = some (4, 32) := by kernel_rfl
theorem tyc_54 : tyc Try.prog 54 = some (true, 4) := by kernel_rfl
theorem zer_54 : zer Try.prog 54 = some [Go.Value.int Go.IntKind.i64 0, Go.Value.int Go.IntKind.i64 0, Go.Value.int Go.IntKind.i64 0, Go.Value.int Go.IntKind.i64 0] := by kernel_rfl
theorem zds_54 : zds Try.prog 54 = some [.v (Go.Value.int Go.IntKind.i64 0), .v (Go.Value.int Go.IntKind.i64 0), .v (Go.Value.int Go.IntKind.i64 0), .v (Go.Value.int Go.IntKind.i64 0)] := by kernel_rfl
theorem arr_54 : arr Try.prog 54 = some (4, 3, 1) := by kernel_rfl
theorem stf_54 : stf Try.prog 54 = none := by kernel_rfl
theorem apf_54 : apf Try.prog 54 = some (4, 32) := by kernel_rfl
theorem tyc_55 : tyc Try.prog 55 = some (true, 8) := by kernel_rfl
theorem zer_55 : zer Try.prog 55 = some [Go.Value.slice none 0 0, Go.Value.int Go.IntKind.i64 0, Go.Value.slice none 0 0, Go.Value.slice none 0 0, Go.Value.int Go.IntKind.i64 0, Go.Value.int Go.IntKind.i64 0, Go.Value.int Go.IntKind.i64 0, Go.Value.int Go.IntKind.i64 0] := by kernel_rfl
theorem zds_55 : zds Try.prog 55 = some [.v (Go.Value.slice none 0 0), .v (Go.Value.int Go.IntKind.i64 0), .v (Go.Value.slice none 0 0), .v (Go.Value.slice none 0 0), .v (Go.Value.int Go.IntKind.i64 0), .v (Go.Value.int Go.IntKind.i64 0), .v (Go.Value.int Go.IntKind.i64 0), .v (Go.Value.int Go.IntKind.i64 0)] := by kernel_rfl
theorem fld_55_0 : fld Try.prog 55 0 = some (0, 28) := by kernel_rfl
theorem fld_55_1 : fld Try.prog 55 1 = some (3, 29) := by kernel_rfl
theorem fld_55_2 : fld Try.prog 55 2 = some (4, 54) := by kernel_rfl
theorem stf_55 : stf Try.prog 55 = some [(0, 3), (3, 1), (4, 4)] := by kernel_rfl
theorem arr_55 : arr Try.prog 55 = none := by kernel_rfl
theorem apf_55 : apf Try.prog 55 = some (8, 112) := by kernel_rfl
theorem tyc_56 : tyc Try.prog 56 = some (true, 8) := by kernel_rfl
theorem zer_56 : zer Try.prog 56 = some [Go.Value.slice none 0 0, Go.Value.int Go.IntKind.i64 0, Go.Value.slice none 0 0, Go.Value.slice none 0 0, Go.Value.int Go.IntKind.i64 0, Go.Value.int Go.IntKind.i64 0, Go.Value.int Go.IntKind.i64 0, Go.Value.int Go.IntKind.i64 0] := by kernel_rfl
theorem zds_56 : zds Try.prog 56 = some [.v (Go.Value.slice none 0 0), .v (Go.Value.int Go.IntKind.i64 0), .v (Go.Value.slice none 0 0), .v (Go.Value.slice none 0 0), .v (Go.Value.int Go.IntKind.i64 0), .v (Go.Value.int Go.IntKind.i64 0), .v (Go.Value.int Go.IntKind.i64 0), .v (Go.Value.int Go.IntKind.i64 0)] := by kernel_rfl
theorem fld_56_0 : fld Try.prog 56 0 = some (0, 28) := by kernel_rfl
theorem fld_56_1 : fld Try.prog 56 1 = some (3, 29) := by kernel_rfl
theorem fld_56_2 : fld Try.prog 56 2 = some (4, 54) := by kernel_rfl
theorem stf_56 : stf Try.prog 56 = some [(0, 3), (3, 1), (4, 4)] := by kernel_rfl
theorem arr_56 : arr Try.prog 56 = none := by kernel_rfl
theorem apf_56 : apf Try.prog 56 = some (8, 112) := by kernel_rfl
theorem tyc_57 : tyc Try.prog 57 = some (false, 1) := by kernel_rfl
theorem zer_57 : zer Try.prog 57 = some [Go.Value.nilFunc] := by kernel_rfl
theorem tyc_58 : tyc Try.prog 58 = some (false, 1) := by kernel_rfl
theorem zer_58 : zer Try.prog 58 = some [Go.Value.nilFunc] := by kernel_rfl
theorem tyc_59 : tyc Try.prog 59 = some (false, 1) := by kernel_rfl
theorem zer_59 : zer Try.prog 59 = some [Go.Value.nilFunc] := by kernel_rfl
theorem tyc_60 : tyc Try.prog 60 = some (false, 1) := by kernel_rfl
theorem zer_60 : zer Try.prog 60 = some [Go.Value.nilFunc] := by kernel_rfl
theorem tyc_61 : tyc Try.prog 61 = some (false, 1) := by kernel_rfl
theorem zer_61 : zer Try.prog 61 = some [Go.Value.nilFunc] := by kernel_rfl
theorem tyc_62 : tyc Try.prog 62 = some (false, 1) := by kernel_rfl
theorem zer_62 : zer Try.prog 62 = some [Go.Value.pointer none] := by kernel_rfl
theorem zds_62 : zds Try.prog 62 = some [.v (Go.Value.pointer none)] := by kernel_rfl
theorem apf_62 : apf Try.prog 62 = some (1, 8) := by kernel_rfl
theorem tyc_63 : tyc Try.prog 63 = some (false, 1) := by kernel_rfl
theorem zer_63 : zer Try.prog 63 = some [Go.Value.nilFunc] := by kernel_rfl
theorem tyc_64 : tyc Try.prog 64 = some (false, 1) := by kernel_rfl
theorem zer_64 : zer Try.prog 64 = some [Go.Value.slice none 0 0] := by kernel_rfl
theorem zds_64 : zds Try.prog 64 = some [.sl 10 []] := by kernel_rfl
theorem elt_64 : elt Try.prog 64 = some (102, 10) := by kernel_rfl
theorem apf_64 : apf Try.prog 64 = some (1, 24) := by kernel_rfl
theorem tyc_65 : tyc Try.prog 65 = some (false, 1) := by kernel_rfl
theorem zer_65 : zer Try.prog 65 = some [Go.Value.nilFunc] := by kernel_rfl
theorem tyc_66 : tyc Try.prog 66 = some (false, 1) := by kernel_rfl
theorem zer_66 : zer Try.prog 66 = some [Go.Value.nilFunc] := by kernel_rfl
theorem tyc_67 : tyc Try.prog 67 = some (false, 1) := by kernel_rfl
theorem zer_67 : zer Try.prog 67 = some [Go.Value.nilFunc] := by kernel_rfl
theorem tyc_68 : tyc Try.prog 68 = some (false, 1) := by kernel_rfl
theorem zer_68 : zer Try.prog 68 = some [Go.Value.pointer none] := by kernel_rfl
theorem zds_68 : zds Try.prog 68 = some [.v (Go.Value.pointer none)] := by kernel_rfl
theorem apf_68 : apf Try.prog 68 = some (1, 8) := by kernel_rfl
theorem tyc_69 : tyc Try.prog 69 = some (false, 1) := by kernel_rfl
theorem zer_69 : zer Try.prog 69 = some [Go.Value.nilFunc] := by kernel_rfl
theorem tyc_70 : tyc Try.prog 70 = some (false, 1) := by kernel_rfl
theorem zer_70 : zer Try.prog 70 = some [Go.Value.slice none 0 0] := by kernel_rfl
theorem zds_70 : zds Try.prog 70 = some [.sl 2 []] := by kernel_rfl
theorem elt_70 : elt Try.prog 70 = some (74, 2) := by kernel_rfl
theorem apf_70 : apf Try.prog 70 = some (1, 24) := by kernel_rfl
theorem tyc_71 : tyc Try.prog 71 = some (false, 1) := by kernel_rfl
theorem zer_71 : zer Try.prog 71 = some [Go.Value.nilFunc] := by kernel_rfl
theorem tyc_72 : tyc Try.prog 72 = some (false, 1) := by kernel_rfl
theorem zer_72 : zer Try.prog 72 = some [Go.Value.int Go.IntKind.i64 0] := by kernel_rfl
theorem zds_72 : zds Try.prog 72 = some [.v (Go.Value.int Go.IntKind.i64 0)] := by kernel_rfl
theorem und_72 : Try.prog.underlying 72 = some (.int .i64) := by kernel_rfl
theorem apf_72 : apf Try.prog 72 = some (1, 8) := by kernel_rfl
theorem tyc_73 : tyc Try.prog 73 = some (true, 2) := by kernel_rfl
theorem zer_73 : zer Try.prog 73 = some [Go.Value.int Go.IntKind.i64 0, Go.Value.int Go.IntKind.i64 0] := by kernel_rfl
theorem zds_73 : zds Try.prog 73 = some [.v (Go.Value.int Go.IntKind.i64 0), .v (Go.Value.int Go.IntKind.i64 0)] := by kernel_rfl
theorem fld_73_0 : fld Try.prog 73 0 = some (0, 3) := by kernel_rfl
theorem fld_73_1 : fld Try.prog 73 1 = some (1, 72) := by kernel_rfl
theorem stf_73 : stf Try.prog 73 = some [(0, 1), (1, 1)] := by kernel_rfl
theorem arr_73 : arr Try.prog 73 = none := by kernel_rfl
theorem apf_73 : apf Try.prog 73 = some (2, 16) := by kernel_rfl
theorem tyc_74 : tyc Try.prog 74 = some (true, 2) := by kernel_rfl
theorem zer_74 : zer Try.prog 74 = some [Go.Value.int Go.IntKind.i64 0, Go.Value.int Go.IntKind.i64 0] := by kernel_rfl
theorem zds_74 : zds Try.prog 74 = some [.v (Go.Value.int Go.IntKind.i64 0), .v (Go.Value.int Go.IntKind.i64 0)] := by kernel_rfl
theorem fld_74_0 : fld Try.prog 74 0 = some (0, 3) := by kernel_rfl
theorem fld_74_1 : fld Try.prog 74 1 = some (1, 72) := by kernel_rfl
theorem stf_74 : stf Try.prog 74 = some [(0, 1), (1, 1)] := by kernel_rfl
theorem arr_74 : arr Try.prog 74 = none := by kernel_rfl
theorem apf_74 : apf Try.prog 74 = some (2, 16) := by kernel_rfl
theorem tyc_75 : tyc Try.prog 75 = some (false, 1) := by kernel_rfl
theorem zer_75 : zer Try.prog 75 = some [Go.Value.map none] := by kernel_rfl
theorem zds_75 : zds Try.prog 75 = some [.v (Go.Value.map none)] := by kernel_rfl
theorem mpt_75 : mpt Try.prog 75 = some (.i64, 4) := by kernel_rfl
theorem apf_75 : apf Try.prog 75 = some (1, 8) := by kernel_rfl
theorem tyc_76 : tyc Try.prog 76 = some (false, 1) := by kernel_rfl
theorem zer_76 : zer Try.prog 76 = some [Go.Value.map none] := by kernel_rfl
theorem zds_76 : zds Try.prog 76 = some [.v (Go.Value.map none)] := by kernel_rfl
theorem mpt_76 : mpt Try.prog 76 = some (.i64, 4) := by kernel_rfl
theorem apf_76 : apf Try.prog 76 = some (1, 8) := by kernel_rfl
theorem tyc_77 : tyc Try.prog 77 = some (false, 1) := by kernel_rfl
theorem zer_77 : zer Try.prog 77 = some [Go.Value.nilFunc] := by kernel_rfl
theorem tyc_78 : tyc Try.prog 78 = some (true, 3) := by kernel_rfl
theorem zer_78 : zer Try.prog 78 = some [Go.Value.map none, Go.Value.map none, Go.Value.map none] := by kernel_rfl
theorem zds_78 : zds Try.prog 78 = some [.v (Go.Value.map none), .v (Go.Value.map none), .v (Go.Value.map none)] := by kernel_rfl
theorem arr_78 : arr Try.prog 78 = some (3, 76, 1) := by kernel_rfl
theorem stf_78 : stf Try.prog 78 = none := by kernel_rfl
theorem apf_78 : apf Try.prog 78 = some (3, 24) := by kernel_rfl
theorem tyc_79 : tyc Try.prog 79 = some (false, 1) := by kernel_rfl
theorem zer_79 : zer Try.prog 79 = some [Go.Value.nilFunc] := by kernel_rfl
theorem tyc_81 : tyc Try.prog 81 = some (false, 1) := by kernel_rfl
theorem zer_81 : zer Try.prog 81 = some [Go.Value.nilFunc] := by kernel_rfl
theorem tyc_82 : tyc Try.prog 82 = some (true, 2) := by kernel_rfl
theorem zer_82 : zer Try.prog 82 = some [Go.Value.int Go.IntKind.i64 0, Go.Value.int Go.IntKind.i64 0] := by kernel_rfl
theorem zds_82 : zds Try.prog 82 = some [.v (Go.Value.int Go.IntKind.i64 0), .v (Go.Value.int Go.IntKind.i64 0)] := by kernel_rfl
theorem fld_82_0 : fld Try.prog 82 0 = some (0, 3) := by kernel_rfl
theorem fld_82_1 : fld Try.prog 82 1 = some (1, 3) := by kernel_rfl
theorem stf_82 : stf Try.prog 82 = some [(0, 1), (1, 1)] := by kernel_rfl
theorem arr_82 : arr Try.prog 82 = none := by kernel_rfl
theorem apf_82 : apf Try.prog 82 = some (2, 16) := by kernel_rfl
theorem tyc_83 : tyc Try.prog 83 = some (true, 2) := by kernel_rfl
theorem zer_83 : zer Try.prog 83 = some [Go.Value.int Go.IntKind.i64 0, Go.Value.int Go.IntKind.i64 0] := by kernel_rfl
theorem zds_83 : zds Try.prog 83 = some [.v (Go.Value.int Go.IntKind.i64 0), .v (Go.Value.int Go.IntKind.i64 0)] := by kernel_rfl
theorem fld_83_0 : fld Try.prog 83 0 = some (0, 3) := by kernel_rfl
theorem fld_83_1 : fld Try.prog 83 1 = some (1, 3) := by kernel_rfl
theorem stf_83 : stf Try.prog 83 = some [(0, 1), (1, 1)] := by kernel_rfl
theorem arr_83 : arr Try.prog 83 = none := by kernel_rfl
theorem apf_83 : apf Try.prog 83 = some (2, 16) := by kernel_rfl
theorem tyc_84 : tyc Try.prog 84 = some (false, 1) := by kernel_rfl
theorem zer_84 : zer Try.prog 84 = some [Go.Value.slice none 0 0] := by kernel_rfl
theorem zds_84 : zds Try.prog 84 = some [.sl 2 []] := by kernel_rfl
theorem elt_84 : elt Try.prog 84 = some (83, 2) := by kernel_rfl
theorem apf_84 : apf Try.prog 84 = some (1, 24) := by kernel_rfl
theorem tyc_85 : tyc Try.prog 85 = some (true, 3) := by kernel_rfl
theorem zer_85 : zer Try.prog 85 = some [Go.Value.slice none 0 0, Go.Value.int Go.IntKind.i64 0, Go.Value.int Go.IntKind.i64 0] := by kernel_rfl
theorem zds_85 : zds Try.prog 85 = some [.v (Go.Value.slice none 0 0), .v (Go.Value.int Go.IntKind.i64 0), .v (Go.Value.int Go.IntKind.i64 0)] := by kernel_rfl
theorem fld_85_0 : fld Try.prog 85 0 = some (0, 84) := by kernel_rfl
theorem fld_85_1 : fld Try.prog 85 1 = some (1, 3) := by kernel_rfl
theorem fld_85_2 : fld Try.prog 85 2 = some (2, 3) := by kernel_rfl
theorem stf_85 : stf Try.prog 85 = some [(0, 1), (1, 1), (2, 1)] := by kernel_rfl
theorem arr_85 : arr Try.prog 85 = none := by kernel_rfl
theorem apf_85 : apf Try.prog 85 = some (3, 40) := by kernel_rfl
theorem tyc_86 : tyc Try.prog 86 = some (true, 3) := by kernel_rfl
theorem zer_86 : zer Try.prog 86 = some [Go.Value.slice none 0 0, Go.Value.int Go.IntKind.i64 0, Go.Value.int Go.IntKind.i64 0] := by kernel_rfl
theorem zds_86 : zds Try.prog 86 = some [.v (Go.Value.slice none 0 0), .v (Go.Value.int Go.IntKind.i64 0), .v (Go.Value.int Go.IntKind.i64 0)] := by kernel_rfl
theorem fld_86_0 : fld Try.prog 86 0 = some (0, 84) := by kernel_rfl
theorem fld_86_1 : fld Try.prog 86 1 = some (1, 3) := by kernel_rfl
theorem fld_86_2 : fld Try.prog 86 2 = some (2, 3) := by kernel_rfl
theorem stf_86 : stf Try.prog 86 = some [(0, 1), (1, 1), (2, 1)] := by kernel_rfl
theorem arr_86 : arr Try.prog 86 = none := by kernel_rfl
theorem apf_86 : apf Try.prog 86 = some (3, 40) := by kernel_rfl
theorem tyc_88 : tyc Try.prog 88 = some (false, 1) := by kernel_rfl
theorem zer_88 : zer Try.prog 88 = some [Go.Value.nilFunc] := by kernel_rfl
theorem tyc_89 : tyc Try.prog 89 = some (false, 1) := by kernel_rfl
theorem zer_89 : zer Try.prog 89 = some [Go.Value.nilFunc] := by kernel_rfl
theorem tyc_90 : tyc Try.prog 90 = some (false, 1) := by kernel_rfl
theorem zer_90 : zer Try.prog 90 = some [Go.Value.nilFunc] := by kernel_rfl
theorem tyc_91 : tyc Try.prog 91 = some (false, 1) := by kernel_rfl
theorem zer_91 : zer Try.prog 91 = some [Go.Value.nilFunc] := by kernel_rfl
theorem tyc_92 : tyc Try.prog 92 = some (false, 1) := by kernel_rfl
theorem zer_92 : zer Try.prog 92 = some [Go.Value.nilFunc] := by kernel_rfl
theorem tyc_93 : tyc Try.prog 93 = some (true, 2) := by kernel_rfl
theorem zer_93 : zer Try.prog 93 = some [Go.Value.int Go.IntKind.i64 0, Go.Value.int Go.IntKind.i64 0] := by kernel_rfl
theorem zds_93 : zds Try.prog 93 = some [.v (Go.Value.int Go.IntKind.i64 0), .v (Go.Value.int Go.IntKind.i64 0)] := by kernel_rfl
theorem fld_93_0 : fld Try.prog 93 0 = some (0, 3) := by kernel_rfl
theorem fld_93_1 : fld Try.prog 93 1 = some (1, 3) := by kernel_rfl
theorem stf_93 : stf Try.prog 93 = some [(0, 1), (1, 1)] := by kernel_rfl
theorem arr_93 : arr Try.prog 93 = none := by kernel_rfl
theorem apf_93 : apf Try.prog 93 = some (2, 16) := by kernel_rfl
theorem tyc_94 : tyc Try.prog 94 = some (true, 2) := by kernel_rfl
theorem zer_94 : zer Try.prog 94 = some [Go.Value.int Go.IntKind.i64 0, Go.Value.int Go.IntKind.i64 0] := by kernel_rfl
theorem zds_94 : zds Try.prog 94 = some [.v (Go.Value.int Go.IntKind.i64 0), .v (Go.Value.int Go.IntKind.i64 0)] := by kernel_rfl
theorem fld_94_0 : fld Try.prog 94 0 = some (0, 3) := by kernel_rfl
theorem fld_94_1 : fld Try.prog 94 1 = some (1, 3) := by kernel_rfl
theorem stf_94 : stf Try.prog 94 = some [(0, 1), (1, 1)] := by kernel_rfl
theorem arr_94 : arr Try.prog 94 = none := by kernel_rfl
theorem apf_94 : apf Try.prog 94 = some (2, 16) := by kernel_rfl
theorem tyc_95 : tyc Try.prog 95 = some (false, 1) := by kernel_rfl
theorem zer_95 : zer Try.prog 95 = some [Go.Value.nilFunc] := by kernel_rfl
theorem tyc_96 : tyc Try.prog 96 = some (false, 1) := by kernel_rfl
theorem zer_96 : zer Try.prog 96 = some [Go.Value.nilFunc] := by kernel_rfl
theorem tyc_97 : tyc Try.prog 97 = some (false, 1) := by kernel_rfl
theorem zer_97 : zer Try.prog 97 = some [Go.Value.nilFunc] := by kernel_rfl
theorem tyc_98 : tyc Try.prog 98 = some (false, 1) := by kernel_rfl
theorem zer_98 : zer Try.prog 98 = some [Go.Value.map none] := by kernel_rfl
theorem zds_98 : zds Try.prog 98 = some [.v (Go.Value.map none)] := by kernel_rfl
theorem apf_98 : apf Try.prog 98 = some (1, 8) := by kernel_rfl
theorem tyc_99 : tyc Try.prog 99 = some (true, 2) := by kernel_rfl
theorem zer_99 : zer Try.prog 99 = some [Go.Value.slice none 0 0, Go.Value.map none] := by kernel_rfl
theorem zds_99 : zds Try.prog 99 = some [.v (Go.Value.slice none 0 0), .v (Go.Value.map none)] := by kernel_rfl
theorem fld_99_0 : fld Try.prog 99 0 = some (0, 64) := by kernel_rfl
theorem fld_99_1 : fld Try.prog 99 1 = some (1, 98) := by kernel_rfl
theorem stf_99 : stf Try.prog 99 = some [(0, 1), (1, 1)] := by kernel_rfl
theorem arr_99 : arr Try.prog 99 = none := by kernel_rfl
theorem apf_99 : apf Try.prog 99 = some (2, 32) := by kernel_rfl
theorem tyc_100 : tyc Try.prog 100 = some (true, 2) := by kernel_rfl
theorem zer_100 : zer Try.prog 100 = some [Go.Value.slice none 0 0, Go.Value.map none] := by kernel_rfl
theorem zds_100 : zds Try.prog 100 = some [.v (Go.Value.slice none 0 0), .v (Go.Value.map none)] := by kernel_rfl
theorem fld_100_0 : fld Try.prog 100 0 = some (0, 64) := by kernel_rfl
theorem fld_100_1 : fld Try.prog 100 1 = some (1, 98) := by kernel_rfl
theorem stf_100 : stf Try.prog 100 = some [(0, 1), (1, 1)] := by kernel_rfl
theorem arr_100 : arr Try.prog 100 = none := by kernel_rfl
theorem apf_100 : apf Try.prog 100 = some (2, 32) := by kernel_rfl
theorem tyc_101 : tyc Try.prog 101 = some (true, 10) := by kernel_rfl
theorem zer_101 : zer Try.prog 101 = some [Go.Value.int Go.IntKind.i64 0, Go.Value.int Go.IntKind.i64 0, Go.Value.int Go.IntKind.i64 0, Go.Value.int Go.IntKind.i64 0, Go.Value.int Go.IntKind.i64 0, Go.Value.int Go.IntKind.i64 0, Go.Value.int Go.IntKind.i64 0, Go.Value.int Go.IntKind.i64 0, Go.Value.int Go.IntKind.i64 0, Go.Value.int Go.IntKind.i64 0] := by kernel_rfl
theorem zds_101 : zds Try.prog 101 = some [.v (Go.Value.int Go.IntKind.i64 0), .v (Go.Value.int Go.IntKind.i64 0), .v (Go.Value.int Go.IntKind.i64 0), .v (Go.Value.int Go.IntKind.i64 0), .v (Go.Value.int Go.IntKind.i64 0), .v (Go.Value.int Go.IntKind.i64 0), .v (Go.Value.int Go.IntKind.i64 0), .v (Go.Value.int Go.IntKind.i64 0), .v (Go.Value.int Go.IntKind.i64 0), .v (Go.Value.int Go.IntKind.i64 0)] := by kernel_rfl
theorem fld_101_0 : fld Try.prog 101 0 = some (0, 54) := by kernel_rfl
theorem fld_101_1 : fld Try.prog 101 1 = some (4, 54) := by kernel_rfl
theorem fld_101_2 : fld Try.prog 101 2 = some (8, 3) := by kernel_rfl
theorem fld_101_3 : fld Try.prog 101 3 = some (9, 3) := by kernel_rfl
theorem stf_101 : stf Try.prog 101 = some [(0, 4), (4, 4), (8, 1), (9, 1)] := by kernel_rfl
theorem arr_101 : arr Try.prog 101 = none := by kernel_rfl
theorem apf_101 : apf Try.prog 101 = some (10, 80) := by kernel_rfl
theorem tyc_102 : tyc Try.prog 102 = some (true, 10) := by kernel_rfl
theorem zer_102 : zer Try.prog 102 = some [Go.Value.int Go.IntKind.i64 0, Go.Value.int Go.IntKind.i64 0, Go.Value.int Go.IntKind.i64 0, Go.Value.int Go.IntKind.i64 0, Go.Value.int Go.IntKind.i64 0, Go.Value.int Go.IntKind.i64 0, Go.Value.int Go.IntKind.i64 0, Go.Value.int Go.IntKind.i64 0, Go.Value.int Go.IntKind.i64 0, Go.Value.int Go.IntKind.i64 0] := by kernel_rfl
theorem zds_102 : zds Try.prog 102 = some [.v (Go.Value.int Go.IntKind.i64 0), .v (Go.Value.int Go.IntKind.i64 0), .v (Go.Value.int Go.IntKind.i64 0), .v (Go.Value.int Go.IntKind.i64 0), .v (Go.Value.int Go.IntKind.i64 0), .v (Go.Value.int Go.IntKind.i64 0), .v (Go.Value.int Go.IntKind.i64 0), .v (Go.Value.int Go.IntKind.i64 0), .v (Go.Value.int Go.IntKind.i64 0), .v (Go.Value.int Go.IntKind.i64 0)] := by kernel_rfl
theorem fld_102_0 : fld Try.prog 102 0 = some (0, 54) := by kernel_rfl
theorem fld_102_1 : fld Try.prog 102 1 = some (4, 54) := by kernel_rfl
theorem fld_102_2 : fld Try.prog 102 2 = some (8, 3) := by kernel_rfl
theorem fld_102_3 : fld Try.prog 102 3 = some (9, 3) := by kernel_rfl
theorem stf_102 : stf Try.prog 102 = some [(0, 4), (4, 4), (8, 1), (9, 1)] := by kernel_rfl
theorem arr_102 : arr Try.prog 102 = none := by kernel_rfl
theorem apf_102 : apf Try.prog 102 = some (10, 80) := by kernel_rfl
theorem tyc_103 : tyc Try.prog 103 = some (true, 5) := by kernel_rfl
theorem zer_103 : zer Try.prog 103 = some [Go.Value.int Go.IntKind.i64 0, Go.Value.int Go.IntKind.i64 0, Go.Value.int Go.IntKind.i64 0, Go.Value.int Go.IntKind.i64 0, Go.Value.int Go.IntKind.i64 0] := by kernel_rfl
theorem zds_103 : zds Try.prog 103 = some [.v (Go.Value.int Go.IntKind.i64 0), .v (Go.Value.int Go.IntKind.i64 0), .v (Go.Value.int Go.IntKind.i64 0), .v (Go.Value.int Go.IntKind.i64 0), .v (Go.Value.int Go.IntKind.i64 0)] := by kernel_rfl
theorem fld_103_0 : fld Try.prog 103 0 = some (0, 3) := by kernel_rfl
theorem fld_103_1 : fld Try.prog 103 1 = some (1, 54) := by kernel_rfl
theorem stf_103 : stf Try.prog 103 = some [(0, 1), (1, 4)] := by kernel_rfl
theorem arr_103 : arr Try.prog 103 = none := by kernel_rfl
theorem apf_103 : apf Try.prog 103 = some (5, 40) := by kernel_rfl
theorem tyc_104 : tyc Try.prog 104 = some (true, 5) := by kernel_rfl
theorem zer_104 : zer Try.prog 104 = some [Go.Value.int Go.IntKind.i64 0, Go.Value.int Go.IntKind.i64 0, Go.Value.int Go.IntKind.i64 0, Go.Value.int Go.IntKind.i64 0, Go.Value.int Go.IntKind.i64 0] := by kernel_rfl
theorem zds_104 : zds Try.prog 104 = some [.v (Go.Value.int Go.IntKind.i64 0), .v (Go.Value.int Go.IntKind.i64 0), .v (Go.Value.int Go.IntKind.i64 0), .v (Go.Value.int Go.IntKind.i64 0), .v (Go.Value.int Go.IntKind.i64 0)] := by kernel_rfl
theorem fld_104_0 : fld Try.prog 104 0 = some (0, 3) := by kernel_rfl
theorem fld_104_1 : fld Try.prog 104 1 = some (1, 54) := by kernel_rfl
theorem stf_104 : stf Try.prog 104 = some [(0, 1), (1, 4)] := by kernel_rfl
theorem arr_104 : arr Try.prog 104 = none := by kernel_rfl
theorem apf_104 : apf Try.prog 104 = some (5, 40) := by kernel_rfl
theorem tyc_106 : tyc Try.prog 106 = some (false, 1) := by kernel_rfl
theorem zer_106 : zer Try.prog 106 = some [Go.Value.nilFunc] := by kernel_rfl
theorem tyc_107 : tyc Try.prog 107 = some (false, 1) := by kernel_rfl
theorem zer_107 : zer Try.prog 107 = some [Go.Value.nilFunc] := by kernel_rfl
theorem tyc_108 : tyc Try.prog 108 = some (false, 1) := by kernel_rfl
theorem zer_108 : zer Try.prog 108 = some [Go.Value.nilFunc] := by kernel_rfl
theorem tyc_109 : tyc Try.prog 109 = some (false, 1) := by kernel_rfl
theorem zer_109 : zer Try.prog 109 = some [Go.Value.nilFunc] := by kernel_rfl
theorem tyc_110 : tyc Try.prog 110 = some (false, 1) := by kernel_rfl
theorem zer_110 : zer Try.prog 110 = some [Go.Value.nilFunc] := by kernel_rfl
theorem tyc_111 : tyc Try.prog 111 = some (false, 1) := by kernel_rfl
theorem zer_111 : zer Try.prog 111 = some [Go.Value.nilFunc] := by kernel_rfl
theorem tyc_112 : tyc Try.prog 112 = some (false, 1) := by kernel_rfl
theorem zer_112 : zer Try.prog 112 = some [Go.Value.nilFunc] := by kernel_rfl
theorem tyc_113 : tyc Try.prog 113 = some (true, 2) := by kernel_rfl
theorem zer_113 : zer Try.prog 113 = some [Go.Value.slice none 0 0, Go.Value.int Go.IntKind.i64 0] := by kernel_rfl
theorem zds_113 : zds Try.prog 113 = some [.v (Go.Value.slice none 0 0), .v (Go.Value.int Go.IntKind.i64 0)] := by kernel_rfl
theorem fld_113_0 : fld Try.prog 113 0 = some (0, 48) := by kernel_rfl
theorem stf_113 : stf Try.prog 113 = some [(0, 2)] := by kernel_rfl
theorem arr_113 : arr Try.prog 113 = none := by kernel_rfl
theorem apf_113 : apf Try.prog 113 = some (2, 32) := by kernel_rfl
theorem tyc_114 : tyc Try.prog 114 = some (true, 2) := by kernel_rfl
theorem zer_114 : zer Try.prog 114 = some [Go.Value.slice none 0 0, Go.Value.int Go.IntKind.i64 0] := by kernel_rfl
theorem zds_114 : zds Try.prog 114 = some [.v (Go.Value.slice none 0 0), .v (Go.Value.int Go.IntKind.i64 0)] := by kernel_rfl
theorem fld_114_0 : fld Try.prog 114 0 = some (0, 48) := by kernel_rfl
theorem stf_114 : stf Try.prog 114 = some [(0, 2)] := by kernel_rfl
theorem arr_114 : arr Try.prog 114 = none := by kernel_rfl
theorem apf_114 : apf Try.prog 114 = some (2, 32) := by kernel_rfl
theorem tyc_115 : tyc Try.prog 115 = some (false, 1) := by kernel_rfl
theorem zer_115 : zer Try.prog 115 = some [Go.Value.nilFunc] := by kernel_rfl
theorem tyc_116 : tyc Try.prog 116 = some (false, 1) := by kernel_rfl
theorem zer_116 : zer Try.prog 116 = some [Go.Value.pointer none] := by kernel_rfl
theorem zds_116 : zds Try.prog 116 = some [.v (Go.Value.pointer none)] := by kernel_rfl
theorem apf_116 : apf Try.prog 116 = some (1, 8) := by kernel_rfl
theorem tyc_117 : tyc Try.prog 117 = some (true, 3) := by kernel_rfl
theorem zer_117 : zer Try.prog 117 = some [Go.Value.int Go.IntKind.i64 0, Go.Value.int Go.IntKind.i64 0, Go.Value.pointer none] := by kernel_rfl
theorem zds_117 : zds Try.prog 117 = some [.v (Go.Value.int Go.IntKind.i64 0), .v (Go.Value.int Go.IntKind.i64 0), .v (Go.Value.pointer none)] := by kernel_rfl
theorem fld_117_0 : fld Try.prog 117 0 = some (0, 74) := by kernel_rfl
theorem fld_117_1 : fld Try.prog 117 1 = some (2, 116) := by kernel_rfl
theorem stf_117 : stf Try.prog 117 = some [(0, 2), (2, 1)] := by kernel_rfl
theorem arr_117 : arr Try.prog 117 = none := by kernel_rfl
theorem apf_117 : apf Try.prog 117 = some (3, 24) := by kernel_rfl
theorem tyc_118 : tyc Try.prog 118 = some (true, 3) := by kernel_rfl
theorem zer_118 : zer Try.prog 118 = some [Go.Value.int Go.IntKind.i64 0, Go.Value.int Go.IntKind.i64 0, Go.Value.pointer none] := by kernel_rfl
theorem zds_118 : zds Try.prog 118 = some [.v (Go.Value.int Go.IntKind.i64 0), .v (Go.Value.int Go.IntKind.i64 0), .v (Go.Value.pointer none)] := by kernel_rfl
theorem fld_118_0 : fld Try.prog 118 0 = some (0, 74) := by kernel_rfl
theorem fld_118_1 : fld Try.prog 118 1 = some (2, 116) := by kernel_rfl
theorem stf_118 : stf Try.prog 118 = some [(0, 2), (2, 1)] := by kernel_rfl
theorem arr_118 : arr Try.prog 118 = none := by kernel_rfl
theorem apf_118 : apf Try.prog 118 = some (3, 24) := by kernel_rfl
theorem tyc_119 : tyc Try.prog 119 = some (false, 1) := by kernel_rfl
theorem zer_119 : zer Try.prog 119 = some [Go.Value.nilFunc] := by kernel_rfl
theorem tyc_120 : tyc Try.prog 120 = some (true, 3) := by kernel_rfl
theorem zer_120 : zer Try.prog 120 = some [Go.Value.int Go.IntKind.i64 0, Go.Value.int Go.IntKind.i64 0, Go.Value.int Go.IntKind.i64 0] := by kernel_rfl
theorem zds_120 : zds Try.prog 120 = some [.v (Go.Value.int Go.IntKind.i64 0), .v (Go.Value.int Go.IntKind.i64 0), .v (Go.Value.int Go.IntKind.i64 0)] := by kernel_rfl
theorem fld_120_0 : fld Try.prog 120 0 = some (0, 45) := by kernel_rfl
theorem stf_120 : stf Try.prog 120 = some [(0, 3)] := by kernel_rfl
theorem arr_120 : arr Try.prog 120 = none := by kernel_rfl
theorem apf_120 : apf Try.prog 120 = some (3, 24) := by kernel_rfl
theorem tyc_121 : tyc Try.prog 121 = some (true, 3) := by kernel_rfl
theorem zer_121 : zer Try.prog 121 = some [Go.Value.int Go.IntKind.i64 0, Go.Value.int Go.IntKind.i64 0, Go.Value.int Go.IntKind.i64 0] := by kernel_rfl
theorem zds_121 : zds Try.prog 121 = some [.v (Go.Value.int Go.IntKind.i64 0), .v (Go.Value.int Go.IntKind.i64 0), .v (Go.Value.int Go.IntKind.i64 0)] := by kernel_rfl
theorem fld_121_0 : fld Try.prog 121 0 = some (0, 45) := by kernel_rfl
theorem stf_121 : stf Try.prog 121 = some [(0, 3)] := by kernel_rfl
theorem arr_121 : arr Try.prog 121 = none := by kernel_rfl
theorem apf_121 : apf Try.prog 121 = some (3, 24) := by kernel_rfl
theorem tyc_122 : tyc Try.prog 122 = some (false, 1) := by kernel_rfl
theorem zer_122 : zer Try.prog 122 = some [Go.Value.nilFunc] := by kernel_rfl
theorem tyc_123 : tyc Try.prog 123 = some (false, 1) := by kernel_rfl
theorem zer_123 : zer Try.prog 123 = some [Go.Value.nilFunc] := by kernel_rfl
theorem tyc_124 : tyc Try.prog 124 = some (false, 1) := by kernel_rfl
theorem zer_124 : zer Try.prog 124 = some [Go.Value.nilFunc] := by kernel_rfl
theorem tyc_125 : tyc Try.prog 125 = some (true, 3) := by kernel_rfl
theorem zer_125 : zer Try.prog 125 = some [Go.Value.int Go.IntKind.i64 0, Go.Value.int Go.IntKind.i64 0, Go.Value.int Go.IntKind.i64 0] := by kernel_rfl
theorem zds_125 : zds Try.prog 125 = some [.v (Go.Value.int Go.IntKind.i64 0), .v (Go.Value.int Go.IntKind.i64 0), .v (Go.Value.int Go.IntKind.i64 0)] := by kernel_rfl
theorem fld_125_0 : fld Try.prog 125 0 = some (0, 3) := by kernel_rfl
theorem fld_125_1 : fld Try.prog 125 1 = some (1, 3) := by kernel_rfl
theorem fld_125_2 : fld Try.prog 125 2 = some (2, 3) := by kernel_rfl
theorem stf_125 : stf Try.prog 125 = some [(0, 1), (1, 1), (2, 1)] := by kernel_rfl
theorem arr_125 : arr Try.prog 125 = none := by kernel_rfl
theorem apf_125 : apf Try.prog 125 = some (3, 24) := by kernel_rfl
theorem tyc_126 : tyc Try.prog 126 = some (true, 3) := by kernel_rfl
theorem zer_126 : zer Try.prog 126 = some [Go.Value.int Go.IntKind.i64 0, Go.Value.int Go.IntKind.i64 0, Go.Value.int Go.IntKind.i64 0] := by kernel_rfl
theorem zds_126 : zds Try.prog 126 = some [.v (Go.Value.int Go.IntKind.i64 0), .v (Go.Value.int Go.IntKind.i64 0), .v (Go.Value.int Go.IntKind.i64 0)] := by kernel_rfl
theorem fld_126_0 : fld Try.prog 126 0 = some (0, 3) := by kernel_rfl
theorem fld_126_1 : fld Try.prog 126 1 = some (1, 3) := by kernel_rfl
theorem fld_126_2 : fld Try.prog 126 2 = some (2, 3) := by kernel_rfl
theorem stf_126 : stf Try.prog 126 = some [(0, 1), (1, 1), (2, 1)] := by kernel_rfl
theorem arr_126 : arr Try.prog 126 = none := by kernel_rfl
theorem apf_126 : apf Try.prog 126 = some (3, 24) := by kernel_rfl
theorem tyc_127 : tyc Try.prog 127 = some (false, 1) := by kernel_rfl
theorem zer_127 : zer Try.prog 127 = some [Go.Value.nilFunc] := by kernel_rfl
theorem tyc_128 : tyc Try.prog 128 = some (false, 1) := by kernel_rfl
theorem zer_128 : zer Try.prog 128 = some [Go.Value.nilFunc] := by kernel_rfl
theorem tyc_129 : tyc Try.prog 129 = some (false, 1) := by kernel_rfl
theorem zer_129 : zer Try.prog 129 = some [Go.Value.nilFunc] := by kernel_rfl
theorem tyc_130 : tyc Try.prog 130 = some (false, 1) := by kernel_rfl
theorem zer_130 : zer Try.prog 130 = some [Go.Value.nilFunc] := by kernel_rfl
theorem tyc_131 : tyc Try.prog 131 = some (false, 1) := by kernel_rfl
theorem zer_131 : zer Try.prog 131 = some [Go.Value.nilFunc] := by kernel_rfl
theorem tyc_132 : tyc Try.prog 132 = some (false, 1) := by kernel_rfl
theorem zer_132 : zer Try.prog 132 = some [Go.Value.pointer none] := by kernel_rfl
theorem zds_132 : zds Try.prog 132 = some [.v (Go.Value.pointer none)] := by kernel_rfl
theorem apf_132 : apf Try.prog 132 = some (1, 8) := by kernel_rfl
theorem tyc_133 : tyc Try.prog 133 = some (false, 1) := by kernel_rfl
theorem zer_133 : zer Try.prog 133 = some [Go.Value.slice none 0 0] := by kernel_rfl
theorem zds_133 : zds Try.prog 133 = some [.sl 1 []] := by kernel_rfl
theorem elt_133 : elt Try.prog 133 = some (116, 1) := by kernel_rfl
theorem apf_133 : apf Try.prog 133 = some (1, 24) := by kernel_rfl
theorem tyc_134 : tyc Try.prog 134 = some (false, 1) := by kernel_rfl
theorem zer_134 : zer Try.prog 134 = some [Go.Value.nilFunc] := by kernel_rfl
theorem tyc_135 : tyc Try.prog 135 = some (true, 3) := by kernel_rfl
theorem zer_135 : zer Try.prog 135 = some [Go.Value.slice none 0 0, Go.Value.int Go.IntKind.i64 0, Go.Value.int Go.IntKind.i64 0] := by kernel_rfl
theorem zds_135 : zds Try.prog 135 = some [.v (Go.Value.slice none 0 0), .v (Go.Value.int Go.IntKind.i64 0), .v (Go.Value.int Go.IntKind.i64 0)] := by kernel_rfl
theorem fld_135_0 : fld Try.prog 135 0 = some (0, 86) := by kernel_rfl
theorem stf_135 : stf Try.prog 135 = some [(0, 3)] := by kernel_rfl
theorem arr_135 : arr Try.prog 135 = none := by kernel_rfl
theorem apf_135 : apf Try.prog 135 = some (3, 40) := by kernel_rfl
theorem tyc_136 : tyc Try.prog 136 = some (true, 3) := by kernel_rfl
theorem zer_136 : zer Try.prog 136 = some [Go.Value.slice none 0 0, Go.Value.int Go.IntKind.i64 0, Go.Value.int Go.IntKind.i64 0] := by kernel_rfl
theorem zds_136 : zds Try.prog 136 = some [.v (Go.Value.slice none 0 0), .v (Go.Value.int Go.IntKind.i64 0), .v (Go.Value.int Go.IntKind.i64 0)] := by kernel_rfl
theorem fld_136_0 : fld Try.prog 136 0 = some (0, 86) := by kernel_rfl
theorem stf_136 : stf Try.prog 136 = some [(0, 3)] := by kernel_rfl
theorem arr_136 : arr Try.prog 136 = none := by kernel_rfl
theorem apf_136 : apf Try.prog 136 = some (3, 40) := by kernel_rfl
theorem tyc_138 : tyc Try.prog 138 = some (false, 1) := by kernel_rfl
theorem zer_138 : zer Try.prog 138 = some [Go.Value.nilFunc] := by kernel_rfl
theorem tyc_139 : tyc Try.prog 139 = some (false, 1) := by kernel_rfl
theorem zer_139 : zer Try.prog 139 = some [Go.Value.nilFunc] := by kernel_rfl
theorem tyc_140 : tyc Try.prog 140 = some (false, 1) := by kernel_rfl
theorem zer_140 : zer Try.prog 140 = some [Go.Value.nilFunc] := by kernel_rfl
theorem tyc_141 : tyc Try.prog 141 = some (false, 1) := by kernel_rfl
theorem zer_141 : zer Try.prog 141 = some [Go.Value.nilFunc] := by kernel_rfl
theorem tyc_142 : tyc Try.prog 142 = some (false, 1) := by kernel_rfl
theorem zer_142 : zer Try.prog 142 = some [Go.Value.nilFunc] := by kernel_rfl
theorem tyc_143 : tyc Try.prog 143 = some (false, 1) := by kernel_rfl
theorem zer_143 : zer Try.prog 143 = some [Go.Value.nilFunc] := by kernel_rfl
theorem tyc_144 : tyc Try.prog 144 = some (false, 1) := by kernel_rfl
theorem zer_144 : zer Try.prog 144 = some [Go.Value.nilFunc] := by kernel_rfl
theorem tyc_145 : tyc Try.prog 145 = some (true, 4) := by kernel_rfl
theorem zer_145 : zer Try.prog 145 = some [Go.Value.pointer none, Go.Value.pointer none, Go.Value.pointer none, Go.Value.string { data := #[] }] := by kernel_rfl
theorem zds_145 : zds Try.prog 145 = some [.v (Go.Value.pointer none), .v (Go.Value.pointer none), .v (Go.Value.pointer none), .v (Go.Value.string { data := #[] })] := by kernel_rfl
theorem fld_145_0 : fld Try.prog 145 0 = some (0, 17) := by kernel_rfl
theorem fld_145_1 : fld Try.prog 145 1 = some (1, 17) := by kernel_rfl
theorem fld_145_2 : fld Try.prog 145 2 = some (2, 17) := by kernel_rfl
theorem fld_145_3 : fld Try.prog 145 3 = some (3, 9) := by kernel_rfl
theorem stf_145 : stf Try.prog 145 = some [(0, 1), (1, 1), (2, 1), (3, 1)] := by kernel_rfl
theorem arr_145 : arr Try.prog 145 = none := by kernel_rfl
theorem apf_145 : apf Try.prog 145 = some (4, 40) := by kernel_rfl
theorem tyc_146 : tyc Try.prog 146 = some (true, 4) := by kernel_rfl
theorem zer_146 : zer Try.prog 146 = some [Go.Value.pointer none, Go.Value.pointer none, Go.Value.pointer none, Go.Value.string { data := #[] }] := by kernel_rfl
theorem zds_146 : zds Try.prog 146 = some [.v (Go.Value.pointer none), .v (Go.Value.pointer none), .v (Go.Value.pointer none), .v (Go.Value.string { data := #[] })] := by kernel_rfl
theorem fld_146_0 : fld Try.prog 146 0 = some (0, 17) := by kernel_rfl
theorem fld_146_1 : fld Try.prog 146 1 = some (1, 17) := by kernel_rfl
theorem fld_146_2 : fld Try.prog 146 2 = some (2, 17) := by kernel_rfl
theorem fld_146_3 : fld Try.prog 146 3 = some (3, 9) := by kernel_rfl
theorem stf_146 : stf Try.prog 146 = some [(0, 1), (1, 1), (2, 1), (3, 1)] := by kernel_rfl
theorem arr_146 : arr Try.prog 146 = none := by kernel_rfl
theorem apf_146 : apf Try.prog 146 = some (4, 40) := by kernel_rfl
theorem tyc_147 : tyc Try.prog 147 = some (true, 0) := by kernel_rfl
theorem zer_147 : zer Try.prog 147 = some [] := by kernel_rfl
theorem zds_147 : zds Try.prog 147 = some [] := by kernel_rfl
theorem arr_147 : arr Try.prog 147 = some (0, 16, 1) := by kernel_rfl
theorem stf_147 : stf Try.prog 147 = none := by kernel_rfl
theorem tyc_148 : tyc Try.prog 148 = some (true, 0) := by kernel_rfl
theorem zer_148 : zer Try.prog 148 = some [] := by kernel_rfl
theorem zds_148 : zds Try.prog 148 = some [] := by kernel_rfl
theorem stf_148 : stf Try.prog 148 = some [(0, 0)] := by kernel_rfl
theorem arr_148 : arr Try.prog 148 = none := by kernel_rfl
theorem tyc_149 : tyc Try.prog 149 = some (true, 0) := by kernel_rfl
theorem zer_149 : zer Try.prog 149 = some [] := by kernel_rfl
theorem zds_149 : zds Try.prog 149 = some [] := by kernel_rfl
theorem stf_149 : stf Try.prog 149 = some [(0, 0)] := by kernel_rfl
theorem arr_149 : arr Try.prog 149 = none := by kernel_rfl
theorem tyc_150 : tyc Try.prog 150 = some (false, 1) := by kernel_rfl
theorem zer_150 : zer Try.prog 150 = some [Go.Value.int Go.IntKind.u32 0] := by kernel_rfl
theorem zds_150 : zds Try.prog 150 = some [.v (Go.Value.int Go.IntKind.u32 0)] := by kernel_rfl
theorem und_150 : Try.prog.underlying 150 = some (.int .u32) := by kernel_rfl
theorem apf_150 : apf Try.prog 150 = some (1, 4) := by kernel_rfl
theorem tyc_151 : tyc Try.prog 151 = some (false, 1) := by kernel_rfl
theorem zer_151 : zer Try.prog 151 = some [Go.Value.int Go.IntKind.u8 0] := by kernel_rfl
theorem zds_151 : zds Try.prog 151 = some [.v (Go.Value.int Go.IntKind.u8 0)] := by kernel_rfl
theorem und_151 : Try.prog.underlying 151 = some (.int .u8) := by kernel_rfl
theorem apf_151 : apf Try.prog 151 = some (1, 1) := by kernel_rfl
theorem tyc_152 : tyc Try.prog 152 = some (false, 1) := by kernel_rfl
theorem zer_152 : zer Try.prog 152 = some [Go.Value.int Go.IntKind.u8 0] := by kernel_rfl
theorem zds_152 : zds Try.prog 152 = some [.v (Go.Value.int Go.IntKind.u8 0)] := by kernel_rfl
theorem und_152 : Try.prog.underlying 152 = some (.int .u8) := by kernel_rfl
theorem apf_152 : apf Try.prog 152 = some (1, 1) := by kernel_rfl
theorem tyc_153 : tyc Try.prog 153 = some (false, 1) := by kernel_rfl
theorem zer_153 : zer Try.prog 153 = some [Go.Value.nilFunc] := by kernel_rfl
theorem tyc_154 : tyc Try.prog 154 = some (false, 1) := by kernel_rfl
theorem zer_154 : zer Try.prog 154 = some [Go.Value.pointer none] := by kernel_rfl
theorem zds_154 : zds Try.prog 154 = some [.v (Go.Value.pointer none)] := by kernel_rfl
theorem apf_154 : apf Try.prog 154 = some (1, 8) := by kernel_rfl
theorem tyc_155 : tyc Try.prog 155 = some (false, 1) := by kernel_rfl
theorem zer_155 : zer Try.prog 155 = some [Go.Value.int Go.IntKind.i32 0] := by kernel_rfl
theorem zds_155 : zds Try.prog 155 = some [.v (Go.Value.int Go.IntKind.i32 0)] := by kernel_rfl
theorem und_155 : Try.prog.underlying 155 = some (.int .i32) := by kernel_rfl
theorem apf_155 : apf Try.prog 155 = some (1, 4) := by kernel_rfl
theorem tyc_156 : tyc Try.prog 156 = some (false, 1) := by kernel_rfl
theorem zer_156 : zer Try.prog 156 = some [Go.Value.int Go.IntKind.i32 0] := by kernel_rfl
theorem zds_156 : zds Try.prog 156 = some [.v (Go.Value.int Go.IntKind.i32 0)] := by kernel_rfl
theorem und_156 : Try.prog.underlying 156 = some (.int .i32) := by kernel_rfl
theorem apf_156 : apf Try.prog 156 = some (1, 4) := by kernel_rfl
theorem tyc_157 : tyc Try.prog 157 = some (true, 11) := by kernel_rfl
theorem zer_157 : zer Try.prog 157 = some [Go.Value.int Go.IntKind.u64 0, Go.Value.int Go.IntKind.u64 0, Go.Value.int Go.IntKind.u32 0, Go.Value.int Go.IntKind.u8 0, Go.Value.int Go.IntKind.u8 0, Go.Value.int Go.IntKind.u8 0, Go.Value.int Go.IntKind.u8 0, Go.Value.nilFunc, Go.Value.pointer none, Go.Value.int Go.IntKind.i32 0, Go.Value.int Go.IntKind.i32 0] := by kernel_rfl
theorem zds_157 : zds Try.prog 157 = some [.v (Go.Value.int Go.IntKind.u64 0), .v (Go.Value.int Go.IntKind.u64 0), .v (Go.Value.int Go.IntKind.u32 0), .v (Go.Value.int Go.IntKind.u8 0), .v (Go.Value.int Go.IntKind.u8 0), .v (Go.Value.int Go.IntKind.u8 0), .v (Go.Value.int Go.IntKind.u8 0), .v (Go.Value.nilFunc), .v (Go.Value.pointer none), .v (Go.Value.int Go.IntKind.i32 0), .v (Go.Value.int Go.IntKind.i32 0)] := by kernel_rfl
theorem fld_157_0 : fld Try.prog 157 0 = some (0, 12) := by kernel_rfl
theorem fld_157_1 : fld Try.prog 157 1 = some (1, 12) := by kernel_rfl
theorem fld_157_2 : fld Try.prog 157 2 = some (2, 150) := by kernel_rfl
theorem fld_157_3 : fld Try.prog 157 3 = some (3, 151) := by kernel_rfl
theorem fld_157_4 : fld Try.prog 157 4 = some (4, 5) := by kernel_rfl
theorem fld_157_5 : fld Try.prog 157 5 = some (5, 5) := by kernel_rfl
theorem fld_157_6 : fld Try.prog 157 6 = some (6, 152) := by kernel_rfl
theorem fld_157_7 : fld Try.prog 157 7 = some (7, 153) := by kernel_rfl
theorem fld_157_8 : fld Try.prog 157 8 = some (8, 154) := by kernel_rfl
theorem fld_157_9 : fld Try.prog 157 9 = some (9, 155) := by kernel_rfl
theorem fld_157_10 : fld Try.prog 157 10 = some (10, 156) := by kernel_rfl
theorem stf_157 : stf Try.prog 157 = some [(0, 1), (1, 1), (2, 1), (3, 1), (4, 1), (5, 1), (6, 1), (7, 1), (8, 1), (9, 1), (10, 1)] := by kernel_rfl
theorem arr_157 : arr Try.prog 157 = none := by kernel_rfl
theorem apf_157 : apf Try.prog 157 = some (11, 48) := by kernel_rfl
theorem tyc_158 : tyc Try.prog 158 = some (true, 11) := by kernel_rfl
theorem zer_158 : zer Try.prog 158 = some [Go.Value.int Go.IntKind.u64 0, Go.Value.int Go.IntKind.u64 0, Go.Value.int Go.IntKind.u32 0, Go.Value.int Go.IntKind.u8 0, Go.Value.int Go.IntKind.u8 0, Go.Value.int Go.IntKind.u8 0, Go.Value.int Go.IntKind.u8 0, Go.Value.nilFunc, Go.Value.pointer none, Go.Value.int Go.IntKind.i32 0, Go.Value.int Go.IntKind.i32 0] := by kernel_rfl
theorem zds_158 : zds Try.prog 158 = some [.v (Go.Value.int Go.IntKind.u64 0), .v (Go.Value.int Go.IntKind.u64 0), .v (Go.Value.int Go.IntKind.u32 0), .v (Go.Value.int Go.IntKind.u8 0), .v (Go.Value.int Go.IntKind.u8 0), .v (Go.Value.int Go.IntKind.u8 0), .v (Go.Value.int Go.IntKind.u8 0), .v (Go.Value.nilFunc), .v (Go.Value.pointer none), .v (Go.Value.int Go.IntKind.i32 0), .v (Go.Value.int Go.IntKind.i32 0)] := by kernel_rfl
theorem fld_158_0 : fld Try.prog 158 0 = some (0, 12) := by kernel_rfl
theorem fld_158_1 : fld Try.prog 158 1 = some (1, 12) := by kernel_rfl
theorem fld_158_2 : fld Try.prog 158 2 = some (2, 150) := by kernel_rfl
theorem fld_158_3 : fld Try.prog 158 3 = some (3, 151) := by kernel_rfl
theorem fld_158_4 : fld Try.prog 158 4 = some (4, 5) := by kernel_rfl
theorem fld_158_5 : fld Try.prog 158 5 = some (5, 5) := by kernel_rfl
theorem fld_158_6 : fld Try.prog 158 6 = some (6, 152) := by kernel_rfl
theorem fld_158_7 : fld Try.prog 158 7 = some (7, 153) := by kernel_rfl
theorem fld_158_8 : fld Try.prog 158 8 = some (8, 154) := by kernel_rfl
theorem fld_158_9 : fld Try.prog 158 9 = some (9, 155) := by kernel_rfl
theorem fld_158_10 : fld Try.prog 158 10 = some (10, 156) := by kernel_rfl
theorem stf_158 : stf Try.prog 158 = some [(0, 1), (1, 1), (2, 1), (3, 1), (4, 1), (5, 1), (6, 1), (7, 1), (8, 1), (9, 1), (10, 1)] := by kernel_rfl
theorem arr_158 : arr Try.prog 158 = none := by kernel_rfl
theorem apf_158 : apf Try.prog 158 = some (11, 48) := by kernel_rfl
theorem tyc_159 : tyc Try.prog 159 = some (false, 1) := by kernel_rfl
theorem zer_159 : zer Try.prog 159 = some [Go.Value.nilFunc] := by kernel_rfl
theorem zro_4 : zro Try.prog 4 = some (Go.Value.bool false) := by kernel_rfl
theorem fun_3 : Try.prog.funcs[3]? = some Try.f3 := by kernel_rfl
theorem fun_4 : Try.prog.funcs[4]? = some Try.f4 := by kernel_rfl
theorem fun_5 : Try.prog.funcs[5]? = some Try.f5 := by kernel_rfl
theorem fun_6 : Try.prog.funcs[6]? = some Try.f6 := by kernel_rfl
theorem fun_7 : Try.prog.funcs[7]? = some Try.f7 := by kernel_rfl
theorem fun_8 : Try.prog.funcs[8]? = some Try.f8 := by kernel_rfl
theorem fun_9 : Try.prog.funcs[9]? = some Try.f9 := by kernel_rfl
theorem fun_10 : Try.prog.funcs[10]? = some Try.f10 := by kernel_rfl
theorem fun_11 : Try.prog.funcs[11]? = some Try.f11 := by kernel_rfl
theorem fun_12 : Try.prog.funcs[12]? = some Try.f12 := by kernel_rfl
theorem fun_13 : Try.prog.funcs[13]? = some Try.f13 := by kernel_rfl
theorem fun_14 : Try.prog.funcs[14]? = some Try.f14 := by kernel_rfl
theorem fun_15 : Try.prog.funcs[15]? = some Try.f15 := by kernel_rfl
theorem fun_16 : Try.prog.funcs[16]? = some Try.f16 := by kernel_rfl
theorem fun_17 : Try.prog.funcs[17]? = some Try.f17 := by kernel_rfl
theorem fun_18 : Try.prog.funcs[18]? = some Try.f18 := by kernel_rfl
theorem fun_19 : Try.prog.funcs[19]? = some Try.f19 := by kernel_rfl
theorem fun_20 : Try.prog.funcs[20]? = some Try.f20 := by kernel_rfl
theorem fun_21 : Try.prog.funcs[21]? = some Try.f21 := by kernel_rfl
theorem fun_22 : Try.prog.funcs[22]? = some Try.f22 := by kernel_rfl
theorem fun_23 : Try.prog.funcs[23]? = some Try.f23 := by kernel_rfl
theorem fun_24 : Try.prog.funcs[24]? = some Try.f24 := by kernel_rfl
theorem fun_25 : Try.prog.funcs[25]? = some Try.f25 := by kernel_rfl
theorem fun_26 : Try.prog.funcs[26]? = some Try.f26 := by kernel_rfl
theorem fun_27 : Try.prog.funcs[27]? = some Try.f27 := by kernel_rfl
theorem fun_28 : Try.prog.funcs[28]? = some Try.f28 := by kernel_rfl
theorem fun_29 : Try.prog.funcs[29]? = some Try.f29 := by kernel_rfl
theorem fun_30 : Try.prog.funcs[30]? = some Try.f30 := by kernel_rfl
theorem fun_33 : Try.prog.funcs[33]? = some Try.f33 := by kernel_rfl
theorem fun_34 : Try.prog.funcs[34]? = some Try.f34 := by kernel_rfl
theorem fun_35 : Try.prog.funcs[35]? = some Try.f35 := by kernel_rfl
theorem fun_36 : Try.prog.funcs[36]? = some Try.f36 := by kernel_rfl
theorem fun_37 : Try.prog.funcs[37]? = some Try.f37 := by kernel_rfl
theorem fun_38 : Try.prog.funcs[38]? = some Try.f38 := by kernel_rfl
theorem fun_39 : Try.prog.funcs[39]? = some Try.f39 := by kernel_rfl
theorem fun_40 : Try.prog.funcs[40]? = some Try.f40 := by kernel_rfl
theorem fun_41 : Try.prog.funcs[41]? = some Try.f41 := by kernel_rfl
theorem fun_42 : Try.prog.funcs[42]? = some Try.f42 := by kernel_rfl
theorem fun_43 : Try.prog.funcs[43]? = some Try.f43 := by kernel_rfl
theorem fun_44 : Try.prog.funcs[44]? = some Try.f44 := by kernel_rfl
theorem fun_45 : Try.prog.funcs[45]? = some Try.f45 := by kernel_rfl
theorem fun_46 : Try.prog.funcs[46]? = some Try.f46 := by kernel_rfl
theorem fun_47 : Try.prog.funcs[47]? = some Try.f47 := by kernel_rfl
theorem fun_48 : Try.prog.funcs[48]? = some Try.f48 := by kernel_rfl
theorem fun_49 : Try.prog.funcs[49]? = some Try.f49 := by kernel_rfl
theorem fun_50 : Try.prog.funcs[50]? = some Try.f50 := by kernel_rfl
theorem fun_51 : Try.prog.funcs[51]? = some Try.f51 := by kernel_rfl
theorem fun_52 : Try.prog.funcs[52]? = some Try.f52 := by kernel_rfl
theorem fun_53 : Try.prog.funcs[53]? = some Try.f53 := by kernel_rfl
theorem fun_54 : Try.prog.funcs[54]? = some Try.f54 := by kernel_rfl
theorem fun_55 : Try.prog.funcs[55]? = some Try.f55 := by kernel_rfl
theorem fun_56 : Try.prog.funcs[56]? = some Try.f56 := by kernel_rfl
theorem fun_57 : Try.prog.funcs[57]? = some Try.f57 := by kernel_rfl
theorem fun_58 : Try.prog.funcs[58]? = some Try.f58 := by kernel_rfl
theorem fun_59 : Try.prog.funcs[59]? = some Try.f59 := by kernel_rfl
theorem fun_60 : Try.prog.funcs[60]? = some Try.f60 := by kernel_rfl
def fA0 := (And.intro (And.intro (And.intro (And.intro (And.intro (And.intro (And.intro (And.intro (And.intro @tyc_1 @zer_1) (And.intro @tyc_2 (And.intro @zer_2 @zds_2))) (And.intro (And.intro @und_2 (And.intro @apf_2 @tyc_3)) (And.intro @zer_3 (And.intro @zds_3 @und_3)))) (And.intro (And.intro (And.intro @apf_3 (And.intro @tyc_4 @zer_4)) (And.intro @zds_4 (And.intro @und_4 @apf_4))) (And.intro (And.intro @tyc_5 (And.intro @zer_5 @zds_5)) (And.intro @und_5 (And.intro @apf_5 @tyc_6))))) (And.intro (And.intro (And.intro (And.intro @zer_6 @zds_6) (And.intro @und_6 (And.intro @apf_6 @tyc_7))) (And.intro (And.intro @zer_7 (And.intro @zds_7 @fld_7_0)) (And.intro @fld_7_1 (And.intro @fld_7_2 @fld_7_3)))) (And.intro (And.intro (And.intro @stf_7 (And.intro @arr_7 @apf_7)) (And.intro @tyc_8 (And.intro @zer_8 @zds_8))) (And.intro (And.intro @fld_8_0 (And.intro @fld_8_1 @fld_8_2)) (And.intro @fld_8_3 (And.intro @stf_8 @arr_8)))))) (And.intro (And.intro (And.intro (And.intro (And.intro @apf_8 @tyc_9) (And.intro @zer_9 (And.intro @zds_9 @apf_9))) (And.intro (And.intro @tyc_10 (And.intro @zer_10 @zds_10)) (And.intro @apf_10 (And.intro @tyc_11 @zer_11)))) (And.intro (And.intro (And.intro @zds_11 (And.intro @apf_11 @tyc_12)) (And.intro @zer_12 (And.intro @zds_12 @und_12))) (And.intro (And.intro @apf_12 (And.intro @tyc_13 @zer_13)) (And.intro @zds_13 (And.intro @fld_13_0 @fld_13_1))))) (And.intro (And.intro (And.intro (And.intro @stf_13 (And.intro @arr_13 @apf_13)) (And.intro @tyc_14 (And.intro @zer_14 @zds_14))) (And.intro (And.intro @fld_14_0 (And.intro @fld_14_1 @stf_14)) (And.intro @arr_14 (And.intro @apf_14 @tyc_15)))) (And.intro (And.intro (And.intro @zer_15 (And.intro @zds_15 @apf_15)) (And.intro @tyc_16 (And.intro @zer_16 @zds_16))) (And.intro (And.intro @apf_16 (And.intro @tyc_17 @zer_17)) (And.intro @zds_17 (And.intro @apf_17 @tyc_18))))))) (And.intro (And.intro (And.intro (And.intro (And.intro (And.intro @zer_18 @zds_18) (And.intro @fld_18_0 (And.intro @stf_18 @arr_18))) (And.intro (And.intro @apf_18 (And.intro @tyc_19 @zer_19)) (And.intro @zds_19 (And.intro @fld_19_0 @stf_19)))) (And.intro (And.intro (And.intro @arr_19 (And.intro @apf_19 @tyc_21)) (And.intro @zer_21 (And.intro @zds_21 @und_21))) (And.intro (And.intro @apf_21 (And.intro @tyc_22 @zer_22)) (And.intro @zds_22 (And.intro @elt_22 @apf_22))))) (And.intro (And.intro (And.intro (And.intro @tyc_23 @zer_23) (And.intro @zds_23 (And.intro @elt_23 @apf_23))) (And.intro (And.intro @tyc_24 (And.intro @zer_24 @zds_24)) (And.intro @arr_24 (And.intro @stf_24 @apf_24)))) (And.intro (And.intro (And.intro @tyc_25 (And.intro @zer_25 @zds_25)) (And.intro @elt_25 (And.intro @apf_25 @tyc_26))) (And.intro (And.intro @zer_26 (And.intro @zds_26 @elt_26)) (And.intro @apf_26 (And.intro @tyc_27 @zer_27)))))) (And.intro (And.intro (And.intro (And.intro (And.intro @zds_27 @fld_27_0) (And.intro @fld_27_1 (And.intro @fld_27_2 @stf_27))) (And.intro (And.intro @arr_27 (And.intro @apf_27 @tyc_28)) (And.intro @zer_28 (And.intro @zds_28 @fld_28_0)))) (And.intro (And.intro (And.intro @fld_28_1 (And.intro @fld_28_2 @stf_28)) (And.intro @arr_28 (And.intro @apf_28 @tyc_29))) (And.intro (And.intro @zer_29 (And.intro @zds_29 @elt_29)) (And.intro @apf_29 (And.intro @tyc_30 @zer_30))))) (And.intro (And.intro (And.intro (And.intro @zds_30 (And.intro @fld_30_0 @fld_30_1)) (And.intro @stf_30 (And.intro @arr_30 @apf_30))) (And.intro (And.intro @tyc_31 (And.intro @zer_31 @zds_31)) (And.intro @fld_31_0 (And.intro @fld_31_1 @stf_31)))) (And.intro (And.intro (And.intro @arr_31 (And.intro @apf_31 @tyc_32)) (And.intro @zer_32 (And.intro @tyc_33 @zer_33))) (And.intro (And.intro @zds_33 (And.intro @fld_33_0 @fld_33_1)) (And.intro @fld_33_2 (And.intro @stf_33 @arr_33)))))))) (And.intro (And.intro (And.intro (And.intro (And.intro (And.intro (And.intro @apf_33 @tyc_34) (And.intro @zer_34 (And.intro @zds_34 @fld_34_0))) (And.intro (And.intro @fld_34_1 (And.intro @fld_34_2 @stf_34)) (And.intro @arr_34 (And.intro @apf_34 @tyc_35)))) (And.intro (And.intro (And.intro @zer_35 (And.intro @zds_35 @arr_35)) (And.intro @stf_35 (And.intro @apf_35 @tyc_36))) (And.intro (And.intro @zer_36 (And.intro @zds_36 @und_36)) (And.intro @apf_36 (And.intro @tyc_38 @zer_38))))) (And.intro (And.intro (And.intro (And.intro @tyc_40 @zer_40) (And.intro @tyc_41 (And.intro @zer_41 @zds_41))) (And.intro (And.intro @elt_41 (And.intro @apf_41 @tyc_43)) (And.intro @zer_43 (And.intro @tyc_44 @zer_44)))) (And.intro (And.intro (And.intro @zds_44 (And.intro @fld_44_0 @fld_44_1)) (And.intro @fld_44_2 (And.intro @stf_44 @arr_44))) (And.intro (And.intro @apf_44 (And.intro @tyc_45 @zer_45)) (And.intro @zds_45 (And.intro @fld_45_0 @fld_45_1)))))) (And.intro (And.intro (And.intro (And.intro (And.intro @fld_45_2 @stf_45) (And.intro @arr_45 (And.intro @apf_45 @tyc_46))) (And.intro (And.intro @zer_46 (And.intro @zds_46 @elt_46)) (And.intro @apf_46 (And.intro @tyc_47 @zer_47)))) (And.intro (And.intro (And.intro @zds_47 (And.intro @fld_47_0 @fld_47_1)) (And.intro @stf_47 (And.intro @arr_47 @apf_47))) (And.intro (And.intro @tyc_48 (And.intro @zer_48 @zds_48)) (And.intro @fld_48_0 (And.intro @fld_48_1 @stf_48))))) (And.intro (And.intro (And.intro (And.intro @arr_48 (And.intro @apf_48 @tyc_49)) (And.intro @zer_49 (And.intro @tyc_50 @zer_50))) (And.intro (And.intro @tyc_51 (And.intro @zer_51 @tyc_52)) (And.intro @zer_52 (And.intro @tyc_53 @zer_53)))) (And.intro (And.intro (And.intro @zds_53 (And.intro @arr_53 @stf_53)) (And.intro @apf_53 (And.intro @tyc_54 @zer_54))) (And.intro (And.intro @zds_54 (And.intro @arr_54 @stf_54)) (And.intro @apf_54 (And.intro @tyc_55 @zer_55))))))) (And.intro (And.intro (And.intro (And.intro (And.intro (And.intro @zds_55 @fld_55_0) (And.intro @fld_55_1 (And.intro @fld_55_2 @stf_55))) (And.intro (And.intro @arr_55 (And.intro @apf_55 @tyc_56)) (And.intro @zer_56 (And.intro @zds_56 @fld_56_0)))) (And.intro (And.intro (And.intro @fld_56_1 (And.intro @fld_56_2 @stf_56)) (And.intro @arr_56 (And.intro @apf_56 @tyc_57))) (And.intro (And.intro @zer_57 (And.intro @tyc_58 @zer_58)) (And.intro @tyc_59 (And.intro @zer_59 @tyc_60))))) (And.intro (And.intro (And.intro (And.intro @zer_60 (And.intro @tyc_61 @zer_61)) (And.intro @tyc_62 (And.intro @zer_62 @zds_62))) (And.intro (And.intro @apf_62 (And.intro @tyc_63 @zer_63)) (And.intro @tyc_64 (And.intro @zer_64 @zds_64)))) (And.intro (And.intro (And.intro @elt_64 (And.intro @apf_64 @tyc_65)) (And.intro @zer_65 (And.intro @tyc_66 @zer_66))) (And.intro (And.intro @tyc_67 (And.intro @zer_67 @tyc_68)) (And.intro @zer_68 (And.intro @zds_68 @apf_68)))))) (And.intro (And.intro (And.intro (And.intro (And.intro @tyc_69 @zer_69) (And.intro @tyc_70 (And.intro @zer_70 @zds_70))) (And.intro (And.intro @elt_70 (And.intro @apf_70 @tyc_71)) (And.intro @zer_71 (And.intro @tyc_72 @zer_72)))) (And.intro (And.intro (And.intro @zds_72 (And.intro @und_72 @apf_72)) (And.intro @tyc_73 (And.intro @zer_73 @zds_73))) (And.intro (And.intro @fld_73_0 (And.intro @fld_73_1 @stf_73)) (And.intro @arr_73 (And.intro @apf_73 @tyc_74))))) (And.intro (And.intro (And.intro (And.intro @zer_74 (And.intro @zds_74 @fld_74_0)) (And.intro @fld_74_1 (And.intro @stf_74 @arr_74))) (And.intro (And.intro @apf_74 (And.intro @tyc_75 @zer_75)) (And.intro @zds_75 (And.intro @mpt_75 @apf_75)))) (And.intro (And.intro (And.intro @tyc_76 (And.intro @zer_76 @zds_76)) (And.intro @mpt_76 (And.intro @apf_76 @tyc_77))) (And.intro (And.intro @zer_77 (And.intro @tyc_78 @zer_78)) (And.intro @zds_78 (And.intro @arr_78 @stf_78))))))))) (And.intro (And.intro (And.intro (And.intro (And.intro (And.intro (And.intro (And.intro @apf_78 @tyc_79) (And.intro @zer_79 (And.intro @tyc_81 @zer_81))) (And.intro (And.intro @tyc_82 (And.intro @zer_82 @zds_82)) (And.intro @fld_82_0 (And.intro @fld_82_1 @stf_82)))) (And.intro (And.intro (And.intro @arr_82 (And.intro @apf_82 @tyc_83)) (And.intro @zer_83 (And.intro @zds_83 @fld_83_0))) (And.intro (And.intro @fld_83_1 (And.intro @stf_83 @arr_83)) (And.intro @apf_83 (And.intro @tyc_84 @zer_84))))) (And.intro (And.intro (And.intro (And.intro @zds_84 @elt_84) (And.intro @apf_84 (And.intro @tyc_85 @zer_85))) (And.intro (And.intro @zds_85 (And.intro @fld_85_0 @fld_85_1)) (And.intro @fld_85_2 (And.intro @stf_85 @arr_85)))) (And.intro (And.intro (And.intro @apf_85 (And.intro @tyc_86 @zer_86)) (And.intro @zds_86 (And.intro @fld_86_0 @fld_86_1))) (And.intro (And.intro @fld_86_2 (And.intro @stf_86 @arr_86)) (And.intro @apf_86 (And.intro @tyc_88 @zer_88)))))) (And.intro (And.intro (And.intro (And.intro (And.intro @tyc_89 @zer_89) (And.intro @tyc_90 (And.intro @zer_90 @tyc_91))) (And.intro (And.intro @zer_91 (And.intro @tyc_92 @zer_92)) (And.intro @tyc_93 (And.intro @zer_93 @zds_93)))) (And.intro (And.intro (And.intro @fld_93_0 (And.intro @fld_93_1 @stf_93)) (And.intro @arr_93 (And.intro @apf_93 @tyc_94))) (And.intro (And.intro @zer_94 (And.intro @zds_94 @fld_94_0)) (And.intro @fld_94_1 (And.intro @stf_94 @arr_94))))) (And.intro (And.intro (And.intro (And.intro @apf_94 (And.intro @tyc_95 @zer_95)) (And.intro @tyc_96 (And.intro @zer_96 @tyc_97))) (And.intro (And.intro @zer_97 (And.intro @tyc_98 @zer_98)) (And.intro @zds_98 (And.intro @apf_98 @tyc_99)))) (And.intro (And.intro (And.intro @zer_99 (And.intro @zds_99 @fld_99_0)) (And.intro @fld_99_1 (And.intro @stf_99 @arr_99))) (And.intro (And.intro @apf_99 (And.intro @tyc_100 @zer_100)) (And.intro @zds_100 (And.intro @fld_100_0 @fld_100_1))))))) (And.intro (And.intro (And.intro (And.intro (And.intro (And.intro @stf_100 @arr_100) (And.intro @apf_100 (And.intro @tyc_101 @zer_101))) (And.intro (And.intro @zds_101 (And.intro @fld_101_0 @fld_101_1)) (And.intro @fld_101_2 (And.intro @fld_101_3 @stf_101)))) (And.intro (And.intro (And.intro @arr_101 (And.intro @apf_101 @tyc_102)) (And.intro @zer_102 (And.intro @zds_102 @fld_102_0))) (And.intro (And.intro @fld_102_1 (And.intro @fld_102_2 @fld_102_3)) (And.intro @stf_102 (And.intro @arr_102 @apf_102))))) (And.intro (And.intro (And.intro (And.intro @tyc_103 (And.intro @zer_103 @zds_103)) (And.intro @fld_103_0 (And.intro @fld_103_1 @stf_103))) (And.intro (And.intro @arr_103 (And.intro @apf_103 @tyc_104)) (And.intro @zer_104 (And.intro @zds_104 @fld_104_0)))) (And.intro (And.intro (And.intro @fld_104_1 (And.intro @stf_104 @arr_104)) (And.intro @apf_104 (And.intro @tyc_106 @zer_106))) (And.intro (And.intro @tyc_107 (And.intro @zer_107 @tyc_108)) (And.intro @zer_108 (And.intro @tyc_109 @zer_109)))))) (And.intro (And.intro (And.intro (And.intro (And.intro @tyc_110 @zer_110) (And.intro @tyc_111 (And.intro @zer_111 @tyc_112))) (And.intro (And.intro @zer_112 (And.intro @tyc_113 @zer_113)) (And.intro @zds_113 (And.intro @fld_113_0 @stf_113)))) (And.intro (And.intro (And.intro @arr_113 (And.intro @apf_113 @tyc_114)) (And.intro @zer_114 (And.intro @zds_114 @fld_114_0))) (And.intro (And.intro @stf_114 (And.intro @arr_114 @apf_114)) (And.intro @tyc_115 (And.intro @zer_115 @tyc_116))))) (And.intro (And.intro (And.intro (And.intro @zer_116 (And.intro @zds_116 @apf_116)) (And.intro @tyc_117 (And.intro @zer_117 @zds_117))) (And.intro (And.intro @fld_117_0 (And.intro @fld_117_1 @stf_117)) (And.intro @arr_117 (And.intro @apf_117 @tyc_118)))) (And.intro (And.intro (And.intro @zer_118 (And.intro @zds_118 @fld_118_0)) (And.intro @fld_118_1 (And.intro @stf_118 @arr_118))) (And.intro (And.intro @apf_118 (And.intro @tyc_119 @zer_119)) (And.intro @tyc_120 (And.intro @zer_120 @zds_120)))))))) (And.intro (And.intro (And.intro (And.intro (And.intro (And.intro (And.intro @fld_120_0 @stf_120) (And.intro @arr_120 (And.intro @apf_120 @tyc_121))) (And.intro (And.intro @zer_121 (And.intro @zds_121 @fld_121_0)) (And.intro @stf_121 (And.intro @arr_121 @apf_121)))) (And.intro (And.intro (And.intro @tyc_122 (And.intro @zer_122 @tyc_123)) (And.intro @zer_123 (And.intro @tyc_124 @zer_124))) (And.intro (And.intro @tyc_125 (And.intro @zer_125 @zds_125)) (And.intro @fld_125_0 (And.intro @fld_125_1 @fld_125_2))))) (And.intro (And.intro (And.intro (And.intro @stf_125 @arr_125) (And.intro @apf_125 (And.intro @tyc_126 @zer_126))) (And.intro (And.intro @zds_126 (And.intro @fld_126_0 @fld_126_1)) (And.intro @fld_126_2 (And.intro @stf_126 @arr_126)))) (And.intro (And.intro (And.intro @apf_126 (And.intro @tyc_127 @zer_127)) (And.intro @tyc_128 (And.intro @zer_128 @tyc_129))) (And.intro (And.intro @zer_129 (And.intro @tyc_130 @zer_130)) (And.intro @tyc_131 (And.intro @zer_131 @tyc_132)))))) (And.intro (And.intro (And.intro (And.intro (And.intro @zer_132 @zds_132) (And.intro @apf_132 (And.intro @tyc_133 @zer_133))) (And.intro (And.intro @zds_133 (And.intro @elt_133 @apf_133)) (And.intro @tyc_134 (And.intro @zer_134 @tyc_135)))) (And.intro (And.intro (And.intro @zer_135 (And.intro @zds_135 @fld_135_0)) (And.intro @stf_135 (And.intro @arr_135 @apf_135))) (And.intro (And.intro @tyc_136 (And.intro @zer_136 @zds_136)) (And.intro @fld_136_0 (And.intro @stf_136 @arr_136))))) (And.intro (And.intro (And.intro (And.intro @apf_136 (And.intro @tyc_138 @zer_138)) (And.intro @tyc_139 (And.intro @zer_139 @tyc_140))) (And.intro (And.intro @zer_140 (And.intro @tyc_141 @zer_141)) (And.intro @tyc_142 (And.intro @zer_142 @tyc_143)))) (And.intro (And.intro (And.intro @zer_143 (And.intro @tyc_144 @zer_144)) (And.intro @tyc_145 (And.intro @zer_145 @zds_145))) (And.intro (And.intro @fld_145_0 (And.intro @fld_145_1 @fld_145_2)) (And.intro @fld_145_3 (And.intro @stf_145 @arr_145))))))) (And.intro (And.intro (And.intro (And.intro (And.intro (And.intro @apf_145 @tyc_146) (And.intro @zer_146 (And.intro @zds_146 @fld_146_0))) (And.intro (And.intro @fld_146_1 (And.intro @fld_146_2 @fld_146_3)) (And.intro @stf_146 (And.intro @arr_146 @apf_146)))) (And.intro (And.intro (And.intro @tyc_147 (And.intro @zer_147 @zds_147)) (And.intro @arr_147 (And.intro @stf_147 @tyc_148))) (And.intro (And.intro @zer_148 (And.intro @zds_148 @stf_148)) (And.intro @arr_148 (And.intro @tyc_149 @zer_149))))) (And.intro (And.intro (And.intro (And.intro @zds_149 (And.intro @stf_149 @arr_149)) (And.intro @tyc_150 (And.intro @zer_150 @zds_150))) (And.intro (And.intro @und_150 (And.intro @apf_150 @tyc_151)) (And.intro @zer_151 (And.intro @zds_151 @und_151)))) (And.intro (And.intro (And.intro @apf_151 (And.intro @tyc_152 @zer_152)) (And.intro @zds_152 (And.intro @und_152 @apf_152))) (And.intro (And.intro @tyc_153 (And.intro @zer_153 @tyc_154)) (And.intro @zer_154 (And.intro @zds_154 @apf_154)))))) (And.intro (And.intro (And.intro (And.intro (And.intro @tyc_155 @zer_155) (And.intro @zds_155 (And.intro @und_155 @apf_155))) (And.intro (And.intro @tyc_156 (And.intro @zer_156 @zds_156)) (And.intro @und_156 (And.intro @apf_156 @tyc_157)))) (And.intro (And.intro (And.intro @zer_157 (And.intro @zds_157 @fld_157_0)) (And.intro @fld_157_1 (And.intro @fld_157_2 @fld_157_3))) (And.intro (And.intro @fld_157_4 (And.intro @fld_157_5 @fld_157_6)) (And.intro @fld_157_7 (And.intro @fld_157_8 @fld_157_9))))) (And.intro (And.intro (And.intro (And.intro @fld_157_10 (And.intro @stf_157 @arr_157)) (And.intro @apf_157 (And.intro @tyc_158 @zer_158))) (And.intro (And.intro @zds_158 (And.intro @fld_158_0 @fld_158_1)) (And.intro @fld_158_2 (And.intro @fld_158_3 @fld_158_4)))) (And.intro (And.intro (And.intro @fld_158_5 (And.intro @fld_158_6 @fld_158_7)) (And.intro @fld_158_8 (And.intro @fld_158_9 @fld_158_10))) (And.intro (And.intro @stf_158 (And.intro @arr_158 @apf_158)) (And.intro @tyc_159 (And.intro @zer_159 @zro_4))))))))))
theorem fA : type_of% fA0 := fA0
end Go.Proofs.Ytlckjjaipbiidaa.Ab
