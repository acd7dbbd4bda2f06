/- Facts of the seat: its types and its functions, by number. -/
import Derived.Test.YtjobkefbbflpeaaAbV
import Derived.Test.YtjobkefbbflpeaaProg
import Derived.KernelRfl
namespace Go.Proofs.Ytjobkefbbflpeaa.Ab
open Go Go.RowKit
set_option linter.defProp false
theorem tyc_2 : tyc Try.prog 2 = some (false, 1) := by kernel_rfl
theorem zer_2 : zer Try.prog 2 = some [Go.Value.int Go.IntKind.i64 0] := by kernel_rfl
theorem zds_2 : zds Try.prog 2 = some [.v (Go.Value.int Go.IntKind.i64 0)] := by kernel_rfl
theorem und_2 : Try.prog.underlying 2 = some (.int .i64) := by kernel_rfl
theorem apf_2 : apf Try.prog 2 = some (1, 8) := by kernel_rfl
theorem tyc_3 : tyc Try.prog 3 = some (false, 1) := by kernel_rfl
theorem zer_3 : zer Try.prog 3 = some [Go.Value.int Go.IntKind.i64 0] := by kernel_rfl
theorem zds_3 : zds Try.prog 3 = some [.v (Go.Value.int Go.IntKind.i64 0)] := by kernel_rfl
theorem und_3 : Try.prog.underlying 3 = some (.int .i64) := by kernel_rfl
theorem apf_3 : apf Try.prog 3 = some (1, 8) := by kernel_rfl
theorem tyc_4 : tyc Try.prog 4 = some (false, 1) := by kernel_rfl
theorem zer_4 : zer Try.prog 4 = some [Go.Value.bool false] := by kernel_rfl
theorem zds_4 : zds Try.prog 4 = some [.v (Go.Value.bool false)] := by kernel_rfl
theorem und_4 : Try.prog.underlying 4 = some .bool := by kernel_rfl
theorem apf_4 : apf Try.prog 4 = some (1, 1) := by kernel_rfl
theorem tyc_5 : tyc Try.prog 5 = some (false, 1) := by kernel_rfl
theorem zer_5 : zer Try.prog 5 = some [Go.Value.int Go.IntKind.u8 0] := by kernel_rfl
theorem zds_5 : zds Try.prog 5 = some [.v (Go.Value.int Go.IntKind.u8 0)] := by kernel_rfl
theorem und_5 : Try.prog.underlying 5 = some (.int .u8) := by kernel_rfl
theorem apf_5 : apf Try.prog 5 = some (1, 1) := by kernel_rfl
theorem tyc_6 : tyc Try.prog 6 = some (false, 1) := by kernel_rfl
theorem zer_6 : zer Try.prog 6 = some [Go.Value.int Go.IntKind.u8 0] := by kernel_rfl
theorem zds_6 : zds Try.prog 6 = some [.v (Go.Value.int Go.IntKind.u8 0)] := by kernel_rfl
theorem und_6 : Try.prog.underlying 6 = some (.int .u8) := by kernel_rfl
theorem apf_6 : apf Try.prog 6 = some (1, 1) := by kernel_rfl
theorem tyc_7 : tyc Try.prog 7 = some (true, 4) := by kernel_rfl
theorem zer_7 : zer Try.prog 7 = some [Go.Value.int Go.IntKind.i64 0, Go.Value.int Go.IntKind.i64 0, Go.Value.bool false, Go.Value.int Go.IntKind.u8 0] := by kernel_rfl
theorem zds_7 : zds Try.prog 7 = some [.v (Go.Value.int Go.IntKind.i64 0), .v (Go.Value.int Go.IntKind.i64 0), .v (Go.Value.bool false), .v (Go.Value.int Go.IntKind.u8 0)] := by kernel_rfl
theorem fld_7_0 : fld Try.prog 7 0 = some (0, 2) := by kernel_rfl
theorem fld_7_1 : fld Try.prog 7 1 = some (1, 3) := by kernel_rfl
theorem fld_7_2 : fld Try.prog 7 2 = some (2, 4) := by kernel_rfl
theorem fld_7_3 : fld Try.prog 7 3 = some (3, 6) := by kernel_rfl
theorem stf_7 : stf Try.prog 7 = some [(0, 1), (1, 1), (2, 1), (3, 1)] := by kernel_rfl
theorem arr_7 : arr Try.prog 7 = none := by kernel_rfl
theorem apf_7 : apf Try.prog 7 = some (4, 24) := by kernel_rfl
theorem tyc_8 : tyc Try.prog 8 = some (true, 4) := by kernel_rfl
theorem zer_8 : zer Try.prog 8 = some [Go.Value.int Go.IntKind.i64 0, Go.Value.int Go.IntKind.i64 0, Go.Value.bool false, Go.Value.int Go.IntKind.u8 0] := by kernel_rfl
theorem zds_8 : zds Try.prog 8 = some [.v (Go.Value.int Go.IntKind.i64 0), .v (Go.Value.int Go.IntKind.i64 0), .v (Go.Value.bool false), .v (Go.Value.int Go.IntKind.u8 0)] := by kernel_rfl
theorem fld_8_0 : fld Try.prog 8 0 = some (0, 2) := by kernel_rfl
theorem fld_8_1 : fld Try.prog 8 1 = some (1, 3) := by kernel_rfl
theorem fld_8_2 : fld Try.prog 8 2 = some (2, 4) := by kernel_rfl
theorem fld_8_3 : fld Try.prog 8 3 = some (3, 6) := by kernel_rfl
theorem stf_8 : stf Try.prog 8 = some [(0, 1), (1, 1), (2, 1), (3, 1)] := by kernel_rfl
theorem arr_8 : arr Try.prog 8 = none := by kernel_rfl
theorem apf_8 : apf Try.prog 8 = some (4, 24) := by kernel_rfl
theorem tyc_9 : tyc Try.prog 9 = some (false, 1) := by kernel_rfl
theorem zer_9 : zer Try.prog 9 = some [Go.Value.string { data := #[] }] := by kernel_rfl
theorem zds_9 : zds Try.prog 9 = some [.v (Go.Value.string { data := #[] })] := by kernel_rfl
theorem apf_9 : apf Try.prog 9 = some (1, 16) := by kernel_rfl
theorem tyc_10 : tyc Try.prog 10 = some (false, 1) := by kernel_rfl
theorem zer_10 : zer Try.prog 10 = some [Go.Value.string { data := #[] }] := by kernel_rfl
theorem zds_10 : zds Try.prog 10 = some [.v (Go.Value.string { data := #[] })] := by kernel_rfl
theorem apf_10 : apf Try.prog 10 = some (1, 16) := by kernel_rfl
theorem tyc_11 : tyc Try.prog 11 = some (false, 1) := by kernel_rfl
theorem zer_11 : zer Try.prog 11 = some [Go.Value.string { data := #[] }] := by kernel_rfl
theorem zds_11 : zds Try.prog 11 = some [.v (Go.Value.string { data := #[] })] := by kernel_rfl
theorem apf_11 : apf Try.prog 11 = some (1, 16) := by kernel_rfl
theorem tyc_12 : tyc Try.prog 12 = some (false, 1) := by kernel_rfl
theorem zer_12 : zer Try.prog 12 = some [Go.Value.int Go.IntKind.u64 0] := by kernel_rfl
theorem zds_12 : zds Try.prog 12 = some [.v (Go.Value.int Go.IntKind.u64 0)] := by kernel_rfl
theorem und_12 : Try.prog.underlying 12 = some (.int .u64) := by kernel_rfl
theorem apf_12 : apf Try.prog 12 = some (1, 8) := by kernel_rfl
theorem tyc_13 : tyc Try.prog 13 = some (true, 2) := by kernel_rfl
theorem zer_13 : zer Try.prog 13 = some [Go.Value.string { data := #[] }, Go.Value.int Go.IntKind.u64 0] := by kernel_rfl
theorem zds_13 : zds Try.prog 13 = some [.v (Go.Value.string { data := #[] }), .v (Go.Value.int Go.IntKind.u64 0)] := by kernel_rfl
theorem fld_13_0 : fld Try.prog 13 0 = some (0, 9) := by kernel_rfl
theorem fld_13_1 : fld Try.prog 13 1 = some (1, 12) := by kernel_rfl
theorem stf_13 : stf Try.prog 13 = some [(0, 1), (1, 1)] := by kernel_rfl
theorem arr_13 : arr Try.prog 13 = none := by kernel_rfl
theorem apf_13 : apf Try.prog 13 = some (2, 24) := by kernel_rfl
theorem tyc_14 : tyc Try.prog 14 = some (true, 2) := by kernel_rfl
theorem zer_14 : zer Try.prog 14 = some [Go.Value.string { data := #[] }, Go.Value.int Go.IntKind.u64 0] := by kernel_rfl
theorem zds_14 : zds Try.prog 14 = some [.v (Go.Value.string { data := #[] }), .v (Go.Value.int Go.IntKind.u64 0)] := by kernel_rfl
theorem fld_14_0 : fld Try.prog 14 0 = some (0, 9) := by kernel_rfl
theorem fld_14_1 : fld Try.prog 14 1 = some (1, 12) := by kernel_rfl
theorem stf_14 : stf Try.prog 14 = some [(0, 1), (1, 1)] := by kernel_rfl
theorem arr_14 : arr Try.prog 14 = none := by kernel_rfl
theorem apf_14 : apf Try.prog 14 = some (2, 24) := by kernel_rfl
theorem tyc_15 : tyc Try.prog 15 = some (false, 1) := by kernel_rfl
theorem zer_15 : zer Try.prog 15 = some [Go.Value.pointer none] := by kernel_rfl
theorem zds_15 : zds Try.prog 15 = some [.v (Go.Value.pointer none)] := by kernel_rfl
theorem apf_15 : apf Try.prog 15 = some (1, 8) := by kernel_rfl
theorem tyc_16 : tyc Try.prog 16 = some (false, 1) := by kernel_rfl
theorem zer_16 : zer Try.prog 16 = some [Go.Value.pointer none] := by kernel_rfl
theorem zds_16 : zds Try.prog 16 = some [.v (Go.Value.pointer none)] := by kernel_rfl
theorem apf_16 : apf Try.prog 16 = some (1, 8) := by kernel_rfl
theorem tyc_17 : tyc Try.prog 17 = some (false, 1) := by kernel_rfl
theorem zer_17 : zer Try.prog 17 = some [Go.Value.pointer none] := by kernel_rfl
theorem zds_17 : zds Try.prog 17 = some [.v (Go.Value.pointer none)] := by kernel_rfl
theorem apf_17 : apf Try.prog 17 = some (1, 8) := by kernel_rfl
theorem tyc_18 : tyc Try.prog 18 = some (true, 1) := by kernel_rfl
theorem zer_18 : zer Try.prog 18 = some [Go.Value.pointer none] := by kernel_rfl
theorem zds_18 : zds Try.prog 18 = some [.v (Go.Value.pointer none)] := by kernel_rfl
theorem fld_18_0 : fld Try.prog 18 0 = some (0, 17) := by kernel_rfl
theorem stf_18 : stf Try.prog 18 = some [(0, 1)] := by kernel_rfl
theorem arr_18 : arr Try.prog 18 = none := by kernel_rfl
theorem apf_18 : apf Try.prog 18 = some (1, 8) := by kernel_rfl
theorem tyc_19 : tyc Try.prog 19 = some (true, 1) := by kernel_rfl
theorem zer_19 : zer Try.prog 19 = some [Go.Value.pointer none] := by kernel_rfl
theorem zds_19 : zds Try.prog 19 = some [.v (Go.Value.pointer none)] := by kernel_rfl
theorem fld_19_0 : fld Try.prog 19 0 = some (0, 17) := by kernel_rfl
theorem stf_19 : stf Try.prog 19 = some [(0, 1)] := by kernel_rfl
theorem arr_19 : arr Try.prog 19 = none := by kernel_rfl
theorem apf_19 : apf Try.prog 19 = some (1, 8) := by kernel_rfl
theorem tyc_21 : tyc Try.prog 21 = some (false, 1) := by kernel_rfl
theorem zer_21 : zer Try.prog 21 = some [Go.Value.int Go.IntKind.i32 0] := by kernel_rfl
theorem zds_21 : zds Try.prog 21 = some [.v (Go.Value.int Go.IntKind.i32 0)] := by kernel_rfl
theorem und_21 : Try.prog.underlying 21 = some (.int .i32) := by kernel_rfl
theorem apf_21 : apf Try.prog 21 = some (1, 4) := by kernel_rfl
theorem tyc_22 : tyc Try.prog 22 = some (false, 1) := by kernel_rfl
theorem zer_22 : zer Try.prog 22 = some [Go.Value.slice none 0 0] := by kernel_rfl
theorem zds_22 : zds Try.prog 22 = some [.sl 2 []] := by kernel_rfl
theorem elt_22 : elt Try.prog 22 = some (58, 2) := by kernel_rfl
theorem apf_22 : apf Try.prog 22 = some (1, 24) := by kernel_rfl
theorem tyc_23 : tyc Try.prog 23 = some (false, 1) := by kernel_rfl
theorem zer_23 : zer Try.prog 23 = some [Go.Value.slice none 0 0] := by kernel_rfl
theorem zds_23 : zds Try.prog 23 = some [.sl 6 []] := by kernel_rfl
theorem elt_23 : elt Try.prog 23 = some (72, 6) := by kernel_rfl
theorem apf_23 : apf Try.prog 23 = some (1, 24) := by kernel_rfl
theorem tyc_24 : tyc Try.prog 24 = some (true, 4) := by kernel_rfl
theorem zer_24 : zer Try.prog 24 = some [Go.Value.slice none 0 0, Go.Value.slice none 0 0, Go.Value.int Go.IntKind.i64 0, Go.Value.slice none 0 0] := by kernel_rfl
theorem zds_24 : zds Try.prog 24 = some [.v (Go.Value.slice none 0 0), .v (Go.Value.slice none 0 0), .v (Go.Value.int Go.IntKind.i64 0), .v (Go.Value.slice none 0 0)] := by kernel_rfl
theorem fld_24_0 : fld Try.prog 24 0 = some (0, 22) := by kernel_rfl
theorem fld_24_1 : fld Try.prog 24 1 = some (1, 22) := by kernel_rfl
theorem fld_24_2 : fld Try.prog 24 2 = some (2, 3) := by kernel_rfl
theorem fld_24_3 : fld Try.prog 24 3 = some (3, 23) := by kernel_rfl
theorem stf_24 : stf Try.prog 24 = some [(0, 1), (1, 1), (2, 1), (3, 1)] := by kernel_rfl
theorem arr_24 : arr Try.prog 24 = none := by kernel_rfl
theorem apf_24 : apf Try.prog 24 = some (4, 80) := by kernel_rfl
theorem tyc_25 : tyc Try.prog 25 = some (true, 4) := by kernel_rfl
theorem zer_25 : zer Try.prog 25 = some [Go.Value.slice none 0 0, Go.Value.slice none 0 0, Go.Value.int Go.IntKind.i64 0, Go.Value.slice none 0 0] := by kernel_rfl
theorem zds_25 : zds Try.prog 25 = some [.v (Go.Value.slice none 0 0), .v (Go.Value.slice none 0 0), .v (Go.Value.int Go.IntKind.i64 0), .v (Go.Value.slice none 0 0)] := by kernel_rfl
theorem fld_25_0 : fld Try.prog 25 0 = some (0, 22) := by kernel_rfl
theorem fld_25_1 : fld Try.prog 25 1 = some (1, 22) := by kernel_rfl
theorem fld_25_2 : fld Try.prog 25 2 = some (2, 3) := by kernel_rfl
theorem fld_25_3 : fld Try.prog 25 3 = some (3, 23) := by kernel_rfl
theorem stf_25 : stf Try.prog 25 = some [(0, 1), (1, 1), (2, 1), (3, 1)] := by kernel_rfl
theorem arr_25 : arr Try.prog 25 = none := by kernel_rfl
theorem apf_25 : apf Try.prog 25 = some (4, 80) := by kernel_rfl
theorem tyc_26 : tyc Try.prog 26 = some (true, 4) := by kernel_rfl
theorem zer_26 : zer Try.prog 26 = some [Go.Value.int Go.IntKind.i64 0, Go.Value.int Go.IntKind.i64 0, Go.Value.int Go.IntKind.i64 0, Go.Value.int Go.IntKind.i64 0] := by kernel_rfl
theorem zds_26 : zds Try.prog 26 = some [.v (Go.Value.int Go.IntKind.i64 0), .v (Go.Value.int Go.IntKind.i64 0), .v (Go.Value.int Go.IntKind.i64 0), .v (Go.Value.int Go.IntKind.i64 0)] := by kernel_rfl
theorem fld_26_0 : fld Try.prog 26 0 = some (0, 3) := by kernel_rfl
theorem fld_26_1 : fld Try.prog 26 1 = some (1, 3) := by kernel_rfl
theorem fld_26_2 : fld Try.prog 26 2 = some (2, 3) := by kernel_rfl
theorem fld_26_3 : fld Try.prog 26 3 = some (3, 3) := by kernel_rfl
theorem stf_26 : stf Try.prog 26 = some [(0, 1), (1, 1), (2, 1), (3, 1)] := by kernel_rfl
theorem arr_26 : arr Try.prog 26 = none := by kernel_rfl
theorem apf_26 : apf Try.prog 26 = some (4, 32) := by kernel_rfl
theorem tyc_27 : tyc Try.prog 27 = some (true, 4) := by kernel_rfl
theorem zer_27 : zer Try.prog 27 = some [Go.Value.int Go.IntKind.i64 0, Go.Value.int Go.IntKind.i64 0, Go.Value.int Go.IntKind.i64 0, Go.Value.int Go.IntKind.i64 0] := by kernel_rfl
theorem zds_27 : zds Try.prog 27 = some [.v (Go.Value.int Go.IntKind.i64 0), .v (Go.Value.int Go.IntKind.i64 0), .v (Go.Value.int Go.IntKind.i64 0), .v (Go.Value.int Go.IntKind.i64 0)] := by kernel_rfl
theorem fld_27_0 : fld Try.prog 27 0 = some (0, 3) := by kernel_rfl
theorem fld_27_1 : fld Try.prog 27 1 = some (1, 3) := by kernel_rfl
theorem fld_27_2 : fld Try.prog 27 2 = some (2, 3) := by kernel_rfl
theorem fld_27_3 : fld Try.prog 27 3 = some (3, 3) := by kernel_rfl
theorem stf_27 : stf Try.prog 27 = some [(0, 1), (1, 1), (2, 1), (3, 1)] := by kernel_rfl
theorem arr_27 : arr Try.prog 27 = none := by kernel_rfl
theorem apf_27 : apf Try.prog 27 = some (4, 32) := by kernel_rfl
theorem tyc_31 : tyc Try.prog 31 = some (false, 1) := by kernel_rfl
theorem zer_31 : zer Try.prog 31 = some [Go.Value.slice none 0 0] := by kernel_rfl
theorem zds_31 : zds Try.prog 31 = some [.sl 1 []] := by kernel_rfl
theorem elt_31 : elt Try.prog 31 = some (3, 1) := by kernel_rfl
theorem apf_31 : apf Try.prog 31 = some (1, 24) := by kernel_rfl
theorem tyc_32 : tyc Try.prog 32 = some (false, 1) := by kernel_rfl
theorem zer_32 : zer Try.prog 32 = some [Go.Value.int Go.IntKind.i64 0] := by kernel_rfl
theorem zds_32 : zds Try.prog 32 = some [.v (Go.Value.int Go.IntKind.i64 0)] := by kernel_rfl
theorem und_32 : Try.prog.underlying 32 = some (.int .i64) := by kernel_rfl
theorem apf_32 : apf Try.prog 32 = some (1, 8) := by kernel_rfl
theorem tyc_37 : tyc Try.prog 37 = some (true, 2) := by kernel_rfl
theorem zer_37 : zer Try.prog 37 = some [Go.Value.int Go.IntKind.i64 0, Go.Value.int Go.IntKind.i64 0] := by kernel_rfl
theorem zds_37 : zds Try.prog 37 = some [.v (Go.Value.int Go.IntKind.i64 0), .v (Go.Value.int Go.IntKind.i64 0)] := by kernel_rfl
theorem fld_37_0 : fld Try.prog 37 0 = some (0, 3) := by kernel_rfl
theorem fld_37_1 : fld Try.prog 37 1 = some (1, 3) := by kernel_rfl
theorem stf_37 : stf Try.prog 37 = some [(0, 1), (1, 1)] := by kernel_rfl
theorem arr_37 : arr Try.prog 37 = none := by kernel_rfl
theorem apf_37 : apf Try.prog 37 = some (2, 16) := by kernel_rfl
theorem tyc_38 : tyc Try.prog 38 = some (true, 2) := by kernel_rfl
theorem zer_38 : zer Try.prog 38 = some [Go.Value.int Go.IntKind.i64 0, Go.Value.int Go.IntKind.i64 0] := by kernel_rfl
theorem zds_38 : zds Try.prog 38 = some [.v (Go.Value.int Go.IntKind.i64 0), .v (Go.Value.int Go.IntKind.i64 0)] := by kernel_rfl
theorem fld_38_0 : fld Try.prog 38 0 = some (0, 3) := by kernel_rfl
theorem fld_38_1 : fld Try.prog 38 1 = some (1, 3) := by kernel_rfl
theorem stf_38 : stf Try.prog 38 = some [(0, 1), (1, 1)] := by kernel_rfl
theorem arr_38 : arr Try.prog 38 = none := by kernel_rfl
theorem apf_38 : apf Try.prog 38 = some (2, 16) := by kernel_rfl
theorem tyc_41 : tyc Try.prog 41 = some (true, 3) := by kernel_rfl
theorem zer_41 : zer Try.prog 41 = some [Go.Value.slice none 0 0, Go.Value.slice none 0 0, Go.Value.slice none 0 0] := by kernel_rfl
theorem zds_41 : zds Try.prog 41 = some [.v (Go.Value.slice none 0 0), .v (Go.Value.slice none 0 0), .v (Go.Value.slice none 0 0)] := by kernel_rfl
theorem fld_41_0 : fld Try.prog 41 0 = some (0, 31) := by kernel_rfl
theorem fld_41_1 : fld Try.prog 41 1 = some (1, 31) := by kernel_rfl
theorem fld_41_2 : fld Try.prog 41 2 = some (2, 23) := by kernel_rfl
theorem stf_41 : stf Try.prog 41 = some [(0, 1), (1, 1), (2, 1)] := by kernel_rfl
theorem arr_41 : arr Try.prog 41 = none := by kernel_rfl
theorem apf_41 : apf Try.prog 41 = some (3, 72) := by kernel_rfl
theorem tyc_42 : tyc Try.prog 42 = some (true, 3) := by kernel_rfl
theorem zer_42 : zer Try.prog 42 = some [Go.Value.slice none 0 0, Go.Value.slice none 0 0, Go.Value.slice none 0 0] := by kernel_rfl
theorem zds_42 : zds Try.prog 42 = some [.v (Go.Value.slice none 0 0), .v (Go.Value.slice none 0 0), .v (Go.Value.slice none 0 0)] := by kernel_rfl
theorem fld_42_0 : fld Try.prog 42 0 = some (0, 31) := by kernel_rfl
theorem fld_42_1 : fld Try.prog 42 1 = some (1, 31) := by kernel_rfl
theorem fld_42_2 : fld Try.prog 42 2 = some (2, 23) := by kernel_rfl
theorem stf_42 : stf Try.prog 42 = some [(0, 1), (1, 1), (2, 1)] := by kernel_rfl
theorem arr_42 : arr Try.prog 42 = none := by kernel_rfl
theorem apf_42 : apf Try.prog 42 = some (3, 72) := by kernel_rfl
theorem tyc_49 : tyc Try.prog 49 = some (false, 1) := by kernel_rfl
theorem zer_49 : zer Try.prog 49 = some [Go.Value.slice none 0 0] := by kernel_rfl
theorem zds_49 : zds Try.prog 49 = some [.sl 2 []] := by kernel_rfl
theorem elt_49 : elt Try.prog 49 = some (38, 2) := by kernel_rfl
theorem apf_49 : apf Try.prog 49 = some (1, 24) := by kernel_rfl
theorem tyc_57 : tyc Try.prog 57 = some (true, 2) := by kernel_rfl
theorem zer_57 : zer Try.prog 57 = some [Go.Value.int Go.IntKind.i64 0, Go.Value.int Go.IntKind.i64 0] := by kernel_rfl
theorem zds_57 : zds Try.prog 57 = some [.v (Go.Value.int Go.IntKind.i64 0), .v (Go.Value.int Go.IntKind.i64 0)] := by kernel_rfl
theorem fld_57_0 : fld Try.prog 57 0 = some (0, 3) := by kernel_rfl
theorem fld_57_1 : fld Try.prog 57 1 = some (1, 3) := by kernel_rfl
theorem stf_57 : stf Try.prog 57 = some [(0, 1), (1, 1)] := by kernel_rfl
theorem arr_57 : arr Try.prog 57 = none := by kernel_rfl
theorem apf_57 : apf Try.prog 57 = some (2, 16) := by kernel_rfl
theorem tyc_58 : tyc Try.prog 58 = some (true, 2) := by kernel_rfl
theorem zer_58 : zer Try.prog 58 = some [Go.Value.int Go.IntKind.i64 0, Go.Value.int Go.IntKind.i64 0] := by kernel_rfl
theorem zds_58 : zds Try.prog 58 = some [.v (Go.Value.int Go.IntKind.i64 0), .v (Go.Value.int Go.IntKind.i64 0)] := by kernel_rfl
theorem fld_58_0 : fld Try.prog 58 0 = some (0, 3) := by kernel_rfl
theorem fld_58_1 : fld Try.prog 58 1 = some (1, 3) := by kernel_rfl
theorem stf_58 : stf Try.prog 58 = some [(0, 1), (1, 1)] := by kernel_rfl
theorem arr_58 : arr Try.prog 58 = none := by kernel_rfl
theorem apf_58 : apf Try.prog 58 = some (2, 16) := by kernel_rfl
theorem tyc_60 : tyc Try.prog 60 = some (true, 6) := by kernel_rfl
theorem zer_60 : zer Try.prog 60 = some [Go.Value.slice none 0 0, Go.Value.slice none 0 0, Go.Value.int Go.IntKind.i64 0, Go.Value.slice none 0 0, Go.Value.slice none 0 0, Go.Value.slice none 0 0] := by kernel_rfl
theorem zds_60 : zds Try.prog 60 = some [.v (Go.Value.slice none 0 0), .v (Go.Value.slice none 0 0), .v (Go.Value.int Go.IntKind.i64 0), .v (Go.Value.slice none 0 0), .v (Go.Value.slice none 0 0), .v (Go.Value.slice none 0 0)] := by kernel_rfl
theorem fld_60_0 : fld Try.prog 60 0 = some (0, 25) := by kernel_rfl
theorem fld_60_1 : fld Try.prog 60 1 = some (4, 22) := by kernel_rfl
theorem fld_60_2 : fld Try.prog 60 2 = some (5, 22) := by kernel_rfl
theorem stf_60 : stf Try.prog 60 = some [(0, 4), (4, 1), (5, 1)] := by kernel_rfl
theorem arr_60 : arr Try.prog 60 = none := by kernel_rfl
theorem apf_60 : apf Try.prog 60 = some (6, 128) := by kernel_rfl
theorem tyc_61 : tyc Try.prog 61 = some (true, 6) := by kernel_rfl
theorem zer_61 : zer Try.prog 61 = some [Go.Value.slice none 0 0, Go.Value.slice none 0 0, Go.Value.int Go.IntKind.i64 0, Go.Value.slice none 0 0, Go.Value.slice none 0 0, Go.Value.slice none 0 0] := by kernel_rfl
theorem zds_61 : zds Try.prog 61 = some [.v (Go.Value.slice none 0 0), .v (Go.Value.slice none 0 0), .v (Go.Value.int Go.IntKind.i64 0), .v (Go.Value.slice none 0 0), .v (Go.Value.slice none 0 0), .v (Go.Value.slice none 0 0)] := by kernel_rfl
theorem fld_61_0 : fld Try.prog 61 0 = some (0, 25) := by kernel_rfl
theorem fld_61_1 : fld Try.prog 61 1 = some (4, 22) := by kernel_rfl
theorem fld_61_2 : fld Try.prog 61 2 = some (5, 22) := by kernel_rfl
theorem stf_61 : stf Try.prog 61 = some [(0, 4), (4, 1), (5, 1)] := by kernel_rfl
theorem arr_61 : arr Try.prog 61 = none := by kernel_rfl
theorem apf_61 : apf Try.prog 61 = some (6, 128) := by kernel_rfl
theorem tyc_65 : tyc Try.prog 65 = some (false, 1) := by kernel_rfl
theorem zer_65 : zer Try.prog 65 = some [Go.Value.slice none 0 0] := by kernel_rfl
theorem zds_65 : zds Try.prog 65 = some [.sl 4 []] := by kernel_rfl
theorem elt_65 : elt Try.prog 65 = some (84, 4) := by kernel_rfl
theorem apf_65 : apf Try.prog 65 = some (1, 24) := by kernel_rfl
theorem tyc_66 : tyc Try.prog 66 = some (true, 3) := by kernel_rfl
theorem zer_66 : zer Try.prog 66 = some [Go.Value.slice none 0 0, Go.Value.slice none 0 0, Go.Value.slice none 0 0] := by kernel_rfl
theorem zds_66 : zds Try.prog 66 = some [.v (Go.Value.slice none 0 0), .v (Go.Value.slice none 0 0), .v (Go.Value.slice none 0 0)] := by kernel_rfl
theorem fld_66_0 : fld Try.prog 66 0 = some (0, 31) := by kernel_rfl
theorem fld_66_1 : fld Try.prog 66 1 = some (1, 31) := by kernel_rfl
theorem fld_66_2 : fld Try.prog 66 2 = some (2, 65) := by kernel_rfl
theorem stf_66 : stf Try.prog 66 = some [(0, 1), (1, 1), (2, 1)] := by kernel_rfl
theorem arr_66 : arr Try.prog 66 = none := by kernel_rfl
theorem apf_66 : apf Try.prog 66 = some (3, 72) := by kernel_rfl
theorem tyc_67 : tyc Try.prog 67 = some (true, 3) := by kernel_rfl
theorem zer_67 : zer Try.prog 67 = some [Go.Value.slice none 0 0, Go.Value.slice none 0 0, Go.Value.slice none 0 0] := by kernel_rfl
theorem zds_67 : zds Try.prog 67 = some [.v (Go.Value.slice none 0 0), .v (Go.Value.slice none 0 0), .v (Go.Value.slice none 0 0)] := by kernel_rfl
theorem fld_67_0 : fld Try.prog 67 0 = some (0, 31) := by kernel_rfl
theorem fld_67_1 : fld Try.prog 67 1 = some (1, 31) := by kernel_rfl
theorem fld_67_2 : fld Try.prog 67 2 = some (2, 65) := by kernel_rfl
theorem stf_67 : stf Try.prog 67 = some [(0, 1), (1, 1), (2, 1)] := by kernel_rfl
theorem arr_67 : arr Try.prog 67 = none := by kernel_rfl
theorem apf_67 : apf Try.prog 67 = some (3, 72) := by kernel_rfl
theorem tyc_71 : tyc Try.prog 71 = some (true, 6) := by kernel_rfl
theorem zer_71 : zer Try.prog 71 = some [Go.Value.int Go.IntKind.i64 0, Go.Value.int Go.IntKind.i64 0, Go.Value.int Go.IntKind.i64 0, Go.Value.int Go.IntKind.i64 0, Go.Value.int Go.IntKind.i64 0, Go.Value.int Go.IntKind.i64 0] := by kernel_rfl
theorem zds_71 : zds Try.prog 71 = some [.v (Go.Value.int Go.IntKind.i64 0), .v (Go.Value.int Go.IntKind.i64 0), .v (Go.Value.int Go.IntKind.i64 0), .v (Go.Value.int Go.IntKind.i64 0), .v (Go.Value.int Go.IntKind.i64 0), .v (Go.Value.int Go.IntKind.i64 0)] := by kernel_rfl
theorem fld_71_0 : fld Try.prog 71 0 = some (0, 58) := by kernel_rfl
theorem fld_71_1 : fld Try.prog 71 1 = some (2, 58) := by kernel_rfl
theorem fld_71_2 : fld Try.prog 71 2 = some (4, 58) := by kernel_rfl
theorem stf_71 : stf Try.prog 71 = some [(0, 2), (2, 2), (4, 2)] := by kernel_rfl
theorem arr_71 : arr Try.prog 71 = none := by kernel_rfl
theorem apf_71 : apf Try.prog 71 = some (6, 48) := by kernel_rfl
theorem tyc_72 : tyc Try.prog 72 = some (true, 6) := by kernel_rfl
theorem zer_72 : zer Try.prog 72 = some [Go.Value.int Go.IntKind.i64 0, Go.Value.int Go.IntKind.i64 0, Go.Value.int Go.IntKind.i64 0, Go.Value.int Go.IntKind.i64 0, Go.Value.int Go.IntKind.i64 0, Go.Value.int Go.IntKind.i64 0] := by kernel_rfl
theorem zds_72 : zds Try.prog 72 = some [.v (Go.Value.int Go.IntKind.i64 0), .v (Go.Value.int Go.IntKind.i64 0), .v (Go.Value.int Go.IntKind.i64 0), .v (Go.Value.int Go.IntKind.i64 0), .v (Go.Value.int Go.IntKind.i64 0), .v (Go.Value.int Go.IntKind.i64 0)] := by kernel_rfl
theorem fld_72_0 : fld Try.prog 72 0 = some (0, 58) := by kernel_rfl
theorem fld_72_1 : fld Try.prog 72 1 = some (2, 58) := by kernel_rfl
theorem fld_72_2 : fld Try.prog 72 2 = some (4, 58) := by kernel_rfl
theorem stf_72 : stf Try.prog 72 = some [(0, 2), (2, 2), (4, 2)] := by kernel_rfl
theorem arr_72 : arr Try.prog 72 = none := by kernel_rfl
theorem apf_72 : apf Try.prog 72 = some (6, 48) := by kernel_rfl
theorem tyc_75 : tyc Try.prog 75 = some (false, 1) := by kernel_rfl
theorem zer_75 : zer Try.prog 75 = some [Go.Value.slice none 0 0] := by kernel_rfl
theorem zds_75 : zds Try.prog 75 = some [.sl 1 []] := by kernel_rfl
theorem elt_75 : elt Try.prog 75 = some (4, 1) := by kernel_rfl
theorem apf_75 : apf Try.prog 75 = some (1, 24) := by kernel_rfl
theorem tyc_83 : tyc Try.prog 83 = some (true, 4) := by kernel_rfl
theorem zer_83 : zer Try.prog 83 = some [Go.Value.int Go.IntKind.i64 0, Go.Value.int Go.IntKind.i64 0, Go.Value.int Go.IntKind.i64 0, Go.Value.int Go.IntKind.i64 0] := by kernel_rfl
theorem zds_83 : zds Try.prog 83 = some [.v (Go.Value.int Go.IntKind.i64 0), .v (Go.Value.int Go.IntKind.i64 0), .v (Go.Value.int Go.IntKind.i64 0), .v (Go.Value.int Go.IntKind.i64 0)] := by kernel_rfl
theorem fld_83_0 : fld Try.prog 83 0 = some (0, 58) := by kernel_rfl
theorem fld_83_1 : fld Try.prog 83 1 = some (2, 58) := by kernel_rfl
theorem stf_83 : stf Try.prog 83 = some [(0, 2), (2, 2)] := by kernel_rfl
theorem arr_83 : arr Try.prog 83 = none := by kernel_rfl
theorem apf_83 : apf Try.prog 83 = some (4, 32) := by kernel_rfl
theorem tyc_84 : tyc Try.prog 84 = some (true, 4) := by kernel_rfl
theorem zer_84 : zer Try.prog 84 = some [Go.Value.int Go.IntKind.i64 0, Go.Value.int Go.IntKind.i64 0, Go.Value.int Go.IntKind.i64 0, Go.Value.int Go.IntKind.i64 0] := by kernel_rfl
theorem zds_84 : zds Try.prog 84 = some [.v (Go.Value.int Go.IntKind.i64 0), .v (Go.Value.int Go.IntKind.i64 0), .v (Go.Value.int Go.IntKind.i64 0), .v (Go.Value.int Go.IntKind.i64 0)] := by kernel_rfl
theorem fld_84_0 : fld Try.prog 84 0 = some (0, 58) := by kernel_rfl
theorem fld_84_1 : fld Try.prog 84 1 = some (2, 58) := by kernel_rfl
theorem stf_84 : stf Try.prog 84 = some [(0, 2), (2, 2)] := by kernel_rfl
theorem arr_84 : arr Try.prog 84 = none := by kernel_rfl
theorem apf_84 : apf Try.prog 84 = some (4, 32) := by kernel_rfl
theorem tyc_93 : tyc Try.prog 93 = some (false, 1) := by kernel_rfl
theorem zer_93 : zer Try.prog 93 = some [Go.Value.slice none 0 0] := by kernel_rfl
theorem zds_93 : zds Try.prog 93 = some [.sl 1 []] := by kernel_rfl
theorem elt_93 : elt Try.prog 93 = some (75, 1) := by kernel_rfl
theorem apf_93 : apf Try.prog 93 = some (1, 24) := by kernel_rfl
theorem tyc_98 : tyc Try.prog 98 = some (false, 1) := by kernel_rfl
theorem zer_98 : zer Try.prog 98 = some [Go.Value.map none] := by kernel_rfl
theorem zds_98 : zds Try.prog 98 = some [.v (Go.Value.map none)] := by kernel_rfl
theorem mpt_98 : mpt Try.prog 98 = some (.i64, 31) := by kernel_rfl
theorem apf_98 : apf Try.prog 98 = some (1, 8) := by kernel_rfl
theorem tyc_99 : tyc Try.prog 99 = some (false, 1) := by kernel_rfl
theorem zer_99 : zer Try.prog 99 = some [Go.Value.slice none 0 0] := by kernel_rfl
theorem zds_99 : zds Try.prog 99 = some [.sl 1 []] := by kernel_rfl
theorem elt_99 : elt Try.prog 99 = some (65, 1) := by kernel_rfl
theorem apf_99 : apf Try.prog 99 = some (1, 24) := by kernel_rfl
theorem tyc_113 : tyc Try.prog 113 = some (true, 4) := by kernel_rfl
theorem zer_113 : zer Try.prog 113 = some [Go.Value.pointer none, Go.Value.pointer none, Go.Value.pointer none, Go.Value.string { data := #[] }] := by kernel_rfl
theorem zds_113 : zds Try.prog 113 = some [.v (Go.Value.pointer none), .v (Go.Value.pointer none), .v (Go.Value.pointer none), .v (Go.Value.string { data := #[] })] := by kernel_rfl
theorem fld_113_0 : fld Try.prog 113 0 = some (0, 17) := by kernel_rfl
theorem fld_113_1 : fld Try.prog 113 1 = some (1, 17) := by kernel_rfl
theorem fld_113_2 : fld Try.prog 113 2 = some (2, 17) := by kernel_rfl
theorem fld_113_3 : fld Try.prog 113 3 = some (3, 9) := by kernel_rfl
theorem stf_113 : stf Try.prog 113 = some [(0, 1), (1, 1), (2, 1), (3, 1)] := by kernel_rfl
theorem arr_113 : arr Try.prog 113 = none := by kernel_rfl
theorem apf_113 : apf Try.prog 113 = some (4, 40) := by kernel_rfl
theorem tyc_114 : tyc Try.prog 114 = some (true, 4) := by kernel_rfl
theorem zer_114 : zer Try.prog 114 = some [Go.Value.pointer none, Go.Value.pointer none, Go.Value.pointer none, Go.Value.string { data := #[] }] := by kernel_rfl
theorem zds_114 : zds Try.prog 114 = some [.v (Go.Value.pointer none), .v (Go.Value.pointer none), .v (Go.Value.pointer none), .v (Go.Value.string { data := #[] })] := by kernel_rfl
theorem fld_114_0 : fld Try.prog 114 0 = some (0, 17) := by kernel_rfl
theorem fld_114_1 : fld Try.prog 114 1 = some (1, 17) := by kernel_rfl
theorem fld_114_2 : fld Try.prog 114 2 = some (2, 17) := by kernel_rfl
theorem fld_114_3 : fld Try.prog 114 3 = some (3, 9) := by kernel_rfl
theorem stf_114 : stf Try.prog 114 = some [(0, 1), (1, 1), (2, 1), (3, 1)] := by kernel_rfl
theorem arr_114 : arr Try.prog 114 = none := by kernel_rfl
theorem apf_114 : apf Try.prog 114 = some (4, 40) := by kernel_rfl
theorem tyc_115 : tyc Try.prog 115 = some (true, 0) := by kernel_rfl
theorem zer_115 : zer Try.prog 115 = some [] := by kernel_rfl
theorem zds_115 : zds Try.prog 115 = some [] := by kernel_rfl
theorem arr_115 : arr Try.prog 115 = some (0, 16, 1) := by kernel_rfl
theorem stf_115 : stf Try.prog 115 = none := by kernel_rfl
theorem tyc_116 : tyc Try.prog 116 = some (true, 0) := by kernel_rfl
theorem zer_116 : zer Try.prog 116 = some [] := by kernel_rfl
theorem zds_116 : zds Try.prog 116 = some [] := by kernel_rfl
theorem stf_116 : stf Try.prog 116 = some [(0, 0)] := by kernel_rfl
theorem arr_116 : arr Try.prog 116 = none := by kernel_rfl
theorem tyc_117 : tyc Try.prog 117 = some (true, 0) := by kernel_rfl
theorem zer_117 : zer Try.prog 117 = some [] := by kernel_rfl
theorem zds_117 : zds Try.prog 117 = some [] := by kernel_rfl
theorem stf_117 : stf Try.prog 117 = some [(0, 0)] := by kernel_rfl
theorem arr_117 : arr Try.prog 117 = none := by kernel_rfl
theorem tyc_119 : tyc Try.prog 119 = some (false, 1) := by kernel_rfl
theorem zer_119 : zer Try.prog 119 = some [Go.Value.int Go.IntKind.u32 0] := by kernel_rfl
theorem zds_119 : zds Try.prog 119 = some [.v (Go.Value.int Go.IntKind.u32 0)] := by kernel_rfl
theorem und_119 : Try.prog.underlying 119 = some (.int .u32) := by kernel_rfl
theorem apf_119 : apf Try.prog 119 = some (1, 4) := by kernel_rfl
theorem tyc_120 : tyc Try.prog 120 = some (false, 1) := by kernel_rfl
theorem zer_120 : zer Try.prog 120 = some [Go.Value.int Go.IntKind.u8 0] := by kernel_rfl
theorem zds_120 : zds Try.prog 120 = some [.v (Go.Value.int Go.IntKind.u8 0)] := by kernel_rfl
theorem und_120 : Try.prog.underlying 120 = some (.int .u8) := by kernel_rfl
theorem apf_120 : apf Try.prog 120 = some (1, 1) := by kernel_rfl
theorem tyc_121 : tyc Try.prog 121 = some (false, 1) := by kernel_rfl
theorem zer_121 : zer Try.prog 121 = some [Go.Value.int Go.IntKind.u8 0] := by kernel_rfl
theorem zds_121 : zds Try.prog 121 = some [.v (Go.Value.int Go.IntKind.u8 0)] := by kernel_rfl
theorem und_121 : Try.prog.underlying 121 = some (.int .u8) := by kernel_rfl
theorem apf_121 : apf Try.prog 121 = some (1, 1) := by kernel_rfl
theorem tyc_123 : tyc Try.prog 123 = some (false, 1) := by kernel_rfl
theorem zer_123 : zer Try.prog 123 = some [Go.Value.pointer none] := by kernel_rfl
theorem zds_123 : zds Try.prog 123 = some [.v (Go.Value.pointer none)] := by kernel_rfl
theorem apf_123 : apf Try.prog 123 = some (1, 8) := by kernel_rfl
theorem tyc_124 : tyc Try.prog 124 = some (false, 1) := by kernel_rfl
theorem zer_124 : zer Try.prog 124 = some [Go.Value.int Go.IntKind.i32 0] := by kernel_rfl
theorem zds_124 : zds Try.prog 124 = some [.v (Go.Value.int Go.IntKind.i32 0)] := by kernel_rfl
theorem und_124 : Try.prog.underlying 124 = some (.int .i32) := by kernel_rfl
theorem apf_124 : apf Try.prog 124 = some (1, 4) := by kernel_rfl
theorem tyc_125 : tyc Try.prog 125 = some (false, 1) := by kernel_rfl
theorem zer_125 : zer Try.prog 125 = some [Go.Value.int Go.IntKind.i32 0] := by kernel_rfl
theorem zds_125 : zds Try.prog 125 = some [.v (Go.Value.int Go.IntKind.i32 0)] := by kernel_rfl
theorem und_125 : Try.prog.underlying 125 = some (.int .i32) := by kernel_rfl
theorem apf_125 : apf Try.prog 125 = some (1, 4) := by kernel_rfl
theorem tyc_126 : tyc Try.prog 126 = some (true, 11) := by kernel_rfl
theorem zer_126 : zer Try.prog 126 = some [Go.Value.int Go.IntKind.u64 0, Go.Value.int Go.IntKind.u64 0, Go.Value.int Go.IntKind.u32 0, Go.Value.int Go.IntKind.u8 0, Go.Value.int Go.IntKind.u8 0, Go.Value.int Go.IntKind.u8 0, Go.Value.int Go.IntKind.u8 0, Go.Value.nilFunc, Go.Value.pointer none, Go.Value.int Go.IntKind.i32 0, Go.Value.int Go.IntKind.i32 0] := by kernel_rfl
theorem zds_126 : zds Try.prog 126 = some [.v (Go.Value.int Go.IntKind.u64 0), .v (Go.Value.int Go.IntKind.u64 0), .v (Go.Value.int Go.IntKind.u32 0), .v (Go.Value.int Go.IntKind.u8 0), .v (Go.Value.int Go.IntKind.u8 0), .v (Go.Value.int Go.IntKind.u8 0), .v (Go.Value.int Go.IntKind.u8 0), .v (Go.Value.nilFunc), .v (Go.Value.pointer none), .v (Go.Value.int Go.IntKind.i32 0), .v (Go.Value.int Go.IntKind.i32 0)] := by kernel_rfl
theorem fld_126_0 : fld Try.prog 126 0 = some (0, 12) := by kernel_rfl
theorem fld_126_1 : fld Try.prog 126 1 = some (1, 12) := by kernel_rfl
theorem fld_126_2 : fld Try.prog 126 2 = some (2, 119) := by kernel_rfl
theorem fld_126_3 : fld Try.prog 126 3 = some (3, 120) := by kernel_rfl
theorem fld_126_4 : fld Try.prog 126 4 = some (4, 5) := by kernel_rfl
theorem fld_126_5 : fld Try.prog 126 5 = some (5, 5) := by kernel_rfl
theorem fld_126_6 : fld Try.prog 126 6 = some (6, 121) := by kernel_rfl
theorem fld_126_7 : fld Try.prog 126 7 = some (7, 122) := by kernel_rfl
theorem fld_126_8 : fld Try.prog 126 8 = some (8, 123) := by kernel_rfl
theorem fld_126_9 : fld Try.prog 126 9 = some (9, 124) := by kernel_rfl
theorem fld_126_10 : fld Try.prog 126 10 = some (10, 125) := by kernel_rfl
theorem stf_126 : stf Try.prog 126 = some [(0, 1), (1, 1), (2, 1), (3, 1), (4, 1), (5, 1), (6, 1), (7, 1), (8, 1), (9, 1), (10, 1)] := by kernel_rfl
theorem arr_126 : arr Try.prog 126 = none := by kernel_rfl
theorem apf_126 : apf Try.prog 126 = some (11, 48) := by kernel_rfl
theorem tyc_127 : tyc Try.prog 127 = some (true, 11) := by kernel_rfl
theorem zer_127 : zer Try.prog 127 = some [Go.Value.int Go.IntKind.u64 0, Go.Value.int Go.IntKind.u64 0, Go.Value.int Go.IntKind.u32 0, Go.Value.int Go.IntKind.u8 0, Go.Value.int Go.IntKind.u8 0, Go.Value.int Go.IntKind.u8 0, Go.Value.int Go.IntKind.u8 0, Go.Value.nilFunc, Go.Value.pointer none, Go.Value.int Go.IntKind.i32 0, Go.Value.int Go.IntKind.i32 0] := by kernel_rfl
theorem zds_127 : zds Try.prog 127 = some [.v (Go.Value.int Go.IntKind.u64 0), .v (Go.Value.int Go.IntKind.u64 0), .v (Go.Value.int Go.IntKind.u32 0), .v (Go.Value.int Go.IntKind.u8 0), .v (Go.Value.int Go.IntKind.u8 0), .v (Go.Value.int Go.IntKind.u8 0), .v (Go.Value.int Go.IntKind.u8 0), .v (Go.Value.nilFunc), .v (Go.Value.pointer none), .v (Go.Value.int Go.IntKind.i32 0), .v (Go.Value.int Go.IntKind.i32 0)] := by kernel_rfl
theorem fld_127_0 : fld Try.prog 127 0 = some (0, 12) := by kernel_rfl
theorem fld_127_1 : fld Try.prog 127 1 = some (1, 12) := by kernel_rfl
theorem fld_127_2 : fld Try.prog 127 2 = some (2, 119) := by kernel_rfl
theorem fld_127_3 : fld Try.prog 127 3 = some (3, 120) := by kernel_rfl
theorem fld_127_4 : fld Try.prog 127 4 = some (4, 5) := by kernel_rfl
theorem fld_127_5 : fld Try.prog 127 5 = some (5, 5) := by kernel_rfl
theorem fld_127_6 : fld Try.prog 127 6 = some (6, 121) := by kernel_rfl
theorem fld_127_7 : fld Try.prog 127 7 = some (7, 122) := by kernel_rfl
theorem fld_127_8 : fld Try.prog 127 8 = some (8, 123) := by kernel_rfl
theorem fld_127_9 : fld Try.prog 127 9 = some (9, 124) := by kernel_rfl
theorem fld_127_10 : fld Try.prog 127 10 = some (10, 125) := by kernel_rfl
theorem stf_127 : stf Try.prog 127 = some [(0, 1), (1, 1), (2, 1), (3, 1), (4, 1), (5, 1), (6, 1), (7, 1), (8, 1), (9, 1), (10, 1)] := by kernel_rfl
theorem arr_127 : arr Try.prog 127 = none := by kernel_rfl
theorem apf_127 : apf Try.prog 127 = some (11, 48) := by kernel_rfl
theorem zro_31 : zro Try.prog 31 = some (Go.Value.slice none 0 0) := by kernel_rfl
theorem fun_0 : Try.prog.funcs[0]? = some Try.f0 := by kernel_rfl
theorem fun_1 : Try.prog.funcs[1]? = some Try.f1 := by kernel_rfl
theorem fun_2 : Try.prog.funcs[2]? = some Try.f2 := by kernel_rfl
theorem fun_3 : Try.prog.funcs[3]? = some Try.f3 := by kernel_rfl
theorem fun_4 : Try.prog.funcs[4]? = some Try.f4 := by kernel_rfl
theorem fun_5 : Try.prog.funcs[5]? = some Try.f5 := by kernel_rfl
theorem fun_6 : Try.prog.funcs[6]? = some Try.f6 := by kernel_rfl
theorem fun_7 : Try.prog.funcs[7]? = some Try.f7 := by kernel_rfl
theorem fun_8 : Try.prog.funcs[8]? = some Try.f8 := by kernel_rfl
theorem fun_9 : Try.prog.funcs[9]? = some Try.f9 := by kernel_rfl
theorem fun_10 : Try.prog.funcs[10]? = some Try.f10 := by kernel_rfl
theorem fun_11 : Try.prog.funcs[11]? = some Try.f11 := by kernel_rfl
theorem fun_12 : Try.prog.funcs[12]? = some Try.f12 := by kernel_rfl
theorem fun_13 : Try.prog.funcs[13]? = some Try.f13 := by kernel_rfl
theorem fun_14 : Try.prog.funcs[14]? = some Try.f14 := by kernel_rfl
theorem fun_15 : Try.prog.funcs[15]? = some Try.f15 := by kernel_rfl
theorem fun_16 : Try.prog.funcs[16]? = some Try.f16 := by kernel_rfl
theorem fun_17 : Try.prog.funcs[17]? = some Try.f17 := by kernel_rfl
theorem fun_18 : Try.prog.funcs[18]? = some Try.f18 := by kernel_rfl
theorem fun_19 : Try.prog.funcs[19]? = some Try.f19 := by kernel_rfl
theorem fun_20 : Try.prog.funcs[20]? = some Try.f20 := by kernel_rfl
theorem fun_21 : Try.prog.funcs[21]? = some Try.f21 := by kernel_rfl
theorem fun_22 : Try.prog.funcs[22]? = some Try.f22 := by kernel_rfl
theorem fun_23 : Try.prog.funcs[23]? = some Try.f23 := by kernel_rfl
theorem fun_24 : Try.prog.funcs[24]? = some Try.f24 := by kernel_rfl
theorem fun_25 : Try.prog.funcs[25]? = some Try.f25 := by kernel_rfl
theorem fun_26 : Try.prog.funcs[26]? = some Try.f26 := by kernel_rfl
theorem fun_27 : Try.prog.funcs[27]? = some Try.f27 := by kernel_rfl
theorem fun_28 : Try.prog.funcs[28]? = some Try.f28 := by kernel_rfl
theorem fun_29 : Try.prog.funcs[29]? = some Try.f29 := by kernel_rfl
theorem fun_30 : Try.prog.funcs[30]? = some Try.f30 := by kernel_rfl
theorem fun_31 : Try.prog.funcs[31]? = some Try.f31 := by kernel_rfl
theorem fun_32 : Try.prog.funcs[32]? = some Try.f32 := by kernel_rfl
theorem fun_33 : Try.prog.funcs[33]? = some Try.f33 := by kernel_rfl
theorem fun_34 : Try.prog.funcs[34]? = some Try.f34 := by kernel_rfl
theorem fun_35 : Try.prog.funcs[35]? = some Try.f35 := by kernel_rfl
theorem fun_36 : Try.prog.funcs[36]? = some Try.f36 := by kernel_rfl
theorem fun_37 : Try.prog.funcs[37]? = some Try.f37 := by kernel_rfl
theorem fun_38 : Try.prog.funcs[38]? = some Try.f38 := by kernel_rfl
theorem fun_39 : Try.prog.funcs[39]? = some Try.f39 := by kernel_rfl
theorem fun_40 : Try.prog.funcs[40]? = some Try.f40 := by kernel_rfl
theorem fun_41 : Try.prog.funcs[41]? = some Try.f41 := by kernel_rfl
theorem fun_42 : Try.prog.funcs[42]? = some Try.f42 := by kernel_rfl
theorem fun_43 : Try.prog.funcs[43]? = some Try.f43 := by kernel_rfl
theorem fun_44 : Try.prog.funcs[44]? = some Try.f44 := by kernel_rfl
theorem fun_45 : Try.prog.funcs[45]? = some Try.f45 := by kernel_rfl
theorem fun_46 : Try.prog.funcs[46]? = some Try.f46 := by kernel_rfl
theorem fun_47 : Try.prog.funcs[47]? = some Try.f47 := by kernel_rfl
theorem fun_48 : Try.prog.funcs[48]? = some Try.f48 := by kernel_rfl
theorem fun_49 : Try.prog.funcs[49]? = some Try.f49 := by kernel_rfl
theorem fun_50 : Try.prog.funcs[50]? = some Try.f50 := by kernel_rfl
theorem fun_51 : Try.prog.funcs[51]? = some Try.f51 := by kernel_rfl
theorem fun_52 : Try.prog.funcs[52]? = some Try.f52 := by kernel_rfl
theorem fun_53 : Try.prog.funcs[53]? = some Try.f53 := by kernel_rfl
theorem fun_54 : Try.prog.funcs[54]? = some Try.f54 := by kernel_rfl
theorem fun_55 : Try.prog.funcs[55]? = some Try.f55 := by kernel_rfl
theorem fun_56 : Try.prog.funcs[56]? = some Try.f56 := by kernel_rfl
theorem fun_57 : Try.prog.funcs[57]? = some Try.f57 := by kernel_rfl
theorem fun_58 : Try.prog.funcs[58]? = some Try.f58 := by kernel_rfl
theorem fun_59 : Try.prog.funcs[59]? = some Try.f59 := by kernel_rfl
theorem fun_60 : Try.prog.funcs[60]? = some Try.f60 := by kernel_rfl
theorem fun_61 : Try.prog.funcs[61]? = some Try.f61 := by kernel_rfl
theorem fun_62 : Try.prog.funcs[62]? = some Try.f62 := by kernel_rfl
theorem fun_63 : Try.prog.funcs[63]? = some Try.f63 := by kernel_rfl
theorem fun_64 : Try.prog.funcs[64]? = some Try.f64 := by kernel_rfl
theorem fun_65 : Try.prog.funcs[65]? = some Try.f65 := by kernel_rfl
theorem fun_66 : Try.prog.funcs[66]? = some Try.f66 := by kernel_rfl
theorem fun_67 : Try.prog.funcs[67]? = some Try.f67 := by kernel_rfl
theorem fun_68 : Try.prog.funcs[68]? = some Try.f68 := by kernel_rfl
theorem fun_69 : Try.prog.funcs[69]? = some Try.f69 := by kernel_rfl
theorem fun_70 : Try.prog.funcs[70]? = some Try.f70 := by kernel_rfl
theorem fun_71 : Try.prog.funcs[71]? = some Try.f71 := by kernel_rfl
theorem fun_72 : Try.prog.funcs[72]? = some Try.f72 := by kernel_rfl
theorem fun_73 : Try.prog.funcs[73]? = some Try.f73 := by kernel_rfl
theorem fun_74 : Try.prog.funcs[74]? = some Try.f74 := by kernel_rfl
theorem fun_75 : Try.prog.funcs[75]? = some Try.f75 := by kernel_rfl
theorem fun_76 : Try.prog.funcs[76]? = some Try.f76 := by kernel_rfl
theorem fun_77 : Try.prog.funcs[77]? = some Try.f77 := by kernel_rfl
theorem fun_78 : Try.prog.funcs[78]? = some Try.f78 := by kernel_rfl
theorem fun_79 : Try.prog.funcs[79]? = some Try.f79 := by kernel_rfl
theorem fun_80 : Try.prog.funcs[80]? = some Try.f80 := by kernel_rfl
def fA0 := (And.intro (And.intro (And.intro (And.intro (And.intro (And.intro (And.intro (And.intro @tyc_2 (And.intro @zer_2 @zds_2)) (And.intro @und_2 (And.intro @apf_2 @tyc_3))) (And.intro (And.intro @zer_3 (And.intro @zds_3 @und_3)) (And.intro (And.intro @apf_3 @tyc_4) (And.intro @zer_4 @zds_4)))) (And.intro (And.intro (And.intro @und_4 (And.intro @apf_4 @tyc_5)) (And.intro @zer_5 (And.intro @zds_5 @und_5))) (And.intro (And.intro @apf_5 (And.intro @tyc_6 @zer_6)) (And.intro (And.intro @zds_6 @und_6) (And.intro @apf_6 @tyc_7))))) (And.intro (And.intro (And.intro (And.intro @zer_7 (And.intro @zds_7 @fld_7_0)) (And.intro @fld_7_1 (And.intro @fld_7_2 @fld_7_3))) (And.intro (And.intro @stf_7 (And.intro @arr_7 @apf_7)) (And.intro (And.intro @tyc_8 @zer_8) (And.intro @zds_8 @fld_8_0)))) (And.intro (And.intro (And.intro @fld_8_1 (And.intro @fld_8_2 @fld_8_3)) (And.intro @stf_8 (And.intro @arr_8 @apf_8))) (And.intro (And.intro @tyc_9 (And.intro @zer_9 @zds_9)) (And.intro (And.intro @apf_9 @tyc_10) (And.intro @zer_10 @zds_10)))))) (And.intro (And.intro (And.intro (And.intro (And.intro @apf_10 (And.intro @tyc_11 @zer_11)) (And.intro @zds_11 (And.intro @apf_11 @tyc_12))) (And.intro (And.intro @zer_12 (And.intro @zds_12 @und_12)) (And.intro (And.intro @apf_12 @tyc_13) (And.intro @zer_13 @zds_13)))) (And.intro (And.intro (And.intro @fld_13_0 (And.intro @fld_13_1 @stf_13)) (And.intro @arr_13 (And.intro @apf_13 @tyc_14))) (And.intro (And.intro @zer_14 (And.intro @zds_14 @fld_14_0)) (And.intro (And.intro @fld_14_1 @stf_14) (And.intro @arr_14 @apf_14))))) (And.intro (And.intro (And.intro (And.intro @tyc_15 (And.intro @zer_15 @zds_15)) (And.intro @apf_15 (And.intro @tyc_16 @zer_16))) (And.intro (And.intro @zds_16 (And.intro @apf_16 @tyc_17)) (And.intro (And.intro @zer_17 @zds_17) (And.intro @apf_17 @tyc_18)))) (And.intro (And.intro (And.intro @zer_18 (And.intro @zds_18 @fld_18_0)) (And.intro @stf_18 (And.intro @arr_18 @apf_18))) (And.intro (And.intro @tyc_19 (And.intro @zer_19 @zds_19)) (And.intro (And.intro @fld_19_0 @stf_19) (And.intro @arr_19 @apf_19))))))) (And.intro (And.intro (And.intro (And.intro (And.intro (And.intro @tyc_21 (And.intro @zer_21 @zds_21)) (And.intro @und_21 (And.intro @apf_21 @tyc_22))) (And.intro (And.intro @zer_22 (And.intro @zds_22 @elt_22)) (And.intro (And.intro @apf_22 @tyc_23) (And.intro @zer_23 @zds_23)))) (And.intro (And.intro (And.intro @elt_23 (And.intro @apf_23 @tyc_24)) (And.intro @zer_24 (And.intro @zds_24 @fld_24_0))) (And.intro (And.intro @fld_24_1 (And.intro @fld_24_2 @fld_24_3)) (And.intro (And.intro @stf_24 @arr_24) (And.intro @apf_24 @tyc_25))))) (And.intro (And.intro (And.intro (And.intro @zer_25 (And.intro @zds_25 @fld_25_0)) (And.intro @fld_25_1 (And.intro @fld_25_2 @fld_25_3))) (And.intro (And.intro @stf_25 (And.intro @arr_25 @apf_25)) (And.intro (And.intro @tyc_26 @zer_26) (And.intro @zds_26 @fld_26_0)))) (And.intro (And.intro (And.intro @fld_26_1 (And.intro @fld_26_2 @fld_26_3)) (And.intro @stf_26 (And.intro @arr_26 @apf_26))) (And.intro (And.intro @tyc_27 (And.intro @zer_27 @zds_27)) (And.intro (And.intro @fld_27_0 @fld_27_1) (And.intro @fld_27_2 @fld_27_3)))))) (And.intro (And.intro (And.intro (And.intro (And.intro @stf_27 (And.intro @arr_27 @apf_27)) (And.intro @tyc_31 (And.intro @zer_31 @zds_31))) (And.intro (And.intro @elt_31 (And.intro @apf_31 @tyc_32)) (And.intro (And.intro @zer_32 @zds_32) (And.intro @und_32 @apf_32)))) (And.intro (And.intro (And.intro @tyc_37 (And.intro @zer_37 @zds_37)) (And.intro @fld_37_0 (And.intro @fld_37_1 @stf_37))) (And.intro (And.intro @arr_37 (And.intro @apf_37 @tyc_38)) (And.intro (And.intro @zer_38 @zds_38) (And.intro @fld_38_0 @fld_38_1))))) (And.intro (And.intro (And.intro (And.intro @stf_38 (And.intro @arr_38 @apf_38)) (And.intro @tyc_41 (And.intro @zer_41 @zds_41))) (And.intro (And.intro @fld_41_0 (And.intro @fld_41_1 @fld_41_2)) (And.intro (And.intro @stf_41 @arr_41) (And.intro @apf_41 @tyc_42)))) (And.intro (And.intro (And.intro @zer_42 (And.intro @zds_42 @fld_42_0)) (And.intro (And.intro @fld_42_1 @fld_42_2) (And.intro @stf_42 @arr_42))) (And.intro (And.intro @apf_42 (And.intro @tyc_49 @zer_49)) (And.intro (And.intro @zds_49 @elt_49) (And.intro @apf_49 @tyc_57)))))))) (And.intro (And.intro (And.intro (And.intro (And.intro (And.intro (And.intro @zer_57 (And.intro @zds_57 @fld_57_0)) (And.intro @fld_57_1 (And.intro @stf_57 @arr_57))) (And.intro (And.intro @apf_57 (And.intro @tyc_58 @zer_58)) (And.intro (And.intro @zds_58 @fld_58_0) (And.intro @fld_58_1 @stf_58)))) (And.intro (And.intro (And.intro @arr_58 (And.intro @apf_58 @tyc_60)) (And.intro @zer_60 (And.intro @zds_60 @fld_60_0))) (And.intro (And.intro @fld_60_1 (And.intro @fld_60_2 @stf_60)) (And.intro (And.intro @arr_60 @apf_60) (And.intro @tyc_61 @zer_61))))) (And.intro (And.intro (And.intro (And.intro @zds_61 (And.intro @fld_61_0 @fld_61_1)) (And.intro @fld_61_2 (And.intro @stf_61 @arr_61))) (And.intro (And.intro @apf_61 (And.intro @tyc_65 @zer_65)) (And.intro (And.intro @zds_65 @elt_65) (And.intro @apf_65 @tyc_66)))) (And.intro (And.intro (And.intro @zer_66 (And.intro @zds_66 @fld_66_0)) (And.intro @fld_66_1 (And.intro @fld_66_2 @stf_66))) (And.intro (And.intro @arr_66 (And.intro @apf_66 @tyc_67)) (And.intro (And.intro @zer_67 @zds_67) (And.intro @fld_67_0 @fld_67_1)))))) (And.intro (And.intro (And.intro (And.intro (And.intro @fld_67_2 (And.intro @stf_67 @arr_67)) (And.intro @apf_67 (And.intro @tyc_71 @zer_71))) (And.intro (And.intro @zds_71 (And.intro @fld_71_0 @fld_71_1)) (And.intro (And.intro @fld_71_2 @stf_71) (And.intro @arr_71 @apf_71)))) (And.intro (And.intro (And.intro @tyc_72 (And.intro @zer_72 @zds_72)) (And.intro @fld_72_0 (And.intro @fld_72_1 @fld_72_2))) (And.intro (And.intro @stf_72 (And.intro @arr_72 @apf_72)) (And.intro (And.intro @tyc_75 @zer_75) (And.intro @zds_75 @elt_75))))) (And.intro (And.intro (And.intro (And.intro @apf_75 (And.intro @tyc_83 @zer_83)) (And.intro @zds_83 (And.intro @fld_83_0 @fld_83_1))) (And.intro (And.intro @stf_83 (And.intro @arr_83 @apf_83)) (And.intro (And.intro @tyc_84 @zer_84) (And.intro @zds_84 @fld_84_0)))) (And.intro (And.intro (And.intro @fld_84_1 (And.intro @stf_84 @arr_84)) (And.intro @apf_84 (And.intro @tyc_93 @zer_93))) (And.intro (And.intro @zds_93 (And.intro @elt_93 @apf_93)) (And.intro (And.intro @tyc_98 @zer_98) (And.intro @zds_98 @mpt_98))))))) (And.intro (And.intro (And.intro (And.intro (And.intro (And.intro @apf_98 (And.intro @tyc_99 @zer_99)) (And.intro @zds_99 (And.intro @elt_99 @apf_99))) (And.intro (And.intro @tyc_113 (And.intro @zer_113 @zds_113)) (And.intro (And.intro @fld_113_0 @fld_113_1) (And.intro @fld_113_2 @fld_113_3)))) (And.intro (And.intro (And.intro @stf_113 (And.intro @arr_113 @apf_113)) (And.intro @tyc_114 (And.intro @zer_114 @zds_114))) (And.intro (And.intro @fld_114_0 (And.intro @fld_114_1 @fld_114_2)) (And.intro (And.intro @fld_114_3 @stf_114) (And.intro @arr_114 @apf_114))))) (And.intro (And.intro (And.intro (And.intro @tyc_115 (And.intro @zer_115 @zds_115)) (And.intro @arr_115 (And.intro @stf_115 @tyc_116))) (And.intro (And.intro @zer_116 (And.intro @zds_116 @stf_116)) (And.intro (And.intro @arr_116 @tyc_117) (And.intro @zer_117 @zds_117)))) (And.intro (And.intro (And.intro @stf_117 (And.intro @arr_117 @tyc_119)) (And.intro @zer_119 (And.intro @zds_119 @und_119))) (And.intro (And.intro @apf_119 (And.intro @tyc_120 @zer_120)) (And.intro (And.intro @zds_120 @und_120) (And.intro @apf_120 @tyc_121)))))) (And.intro (And.intro (And.intro (And.intro (And.intro @zer_121 (And.intro @zds_121 @und_121)) (And.intro @apf_121 (And.intro @tyc_123 @zer_123))) (And.intro (And.intro @zds_123 (And.intro @apf_123 @tyc_124)) (And.intro (And.intro @zer_124 @zds_124) (And.intro @und_124 @apf_124)))) (And.intro (And.intro (And.intro @tyc_125 (And.intro @zer_125 @zds_125)) (And.intro @und_125 (And.intro @apf_125 @tyc_126))) (And.intro (And.intro @zer_126 (And.intro @zds_126 @fld_126_0)) (And.intro (And.intro @fld_126_1 @fld_126_2) (And.intro @fld_126_3 @fld_126_4))))) (And.intro (And.intro (And.intro (And.intro @fld_126_5 (And.intro @fld_126_6 @fld_126_7)) (And.intro @fld_126_8 (And.intro @fld_126_9 @fld_126_10))) (And.intro (And.intro @stf_126 (And.intro @arr_126 @apf_126)) (And.intro (And.intro @tyc_127 @zer_127) (And.intro @zds_127 @fld_127_0)))) (And.intro (And.intro (And.intro @fld_127_1 (And.intro @fld_127_2 @fld_127_3)) (And.intro (And.intro @fld_127_4 @fld_127_5) (And.intro @fld_127_6 @fld_127_7))) (And.intro (And.intro @fld_127_8 (And.intro @fld_127_9 @fld_127_10)) (And.intro (And.intro @stf_127 @arr_127) (And.intro @apf_127 @zro_31)))))))))
theorem fA : type_of% fA0 := fA0
end Go.Proofs.Ytjobkefbbflpeaa.Ab
